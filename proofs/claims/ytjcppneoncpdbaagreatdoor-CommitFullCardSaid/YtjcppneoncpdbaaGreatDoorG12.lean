import Derived.Test.YtjcppneoncpdbaaGreatDoorG01
import Derived.Test.YtjcppneoncpdbaaGreatDoorG02
import Derived.Test.YtjcppneoncpdbaaGreatDoorG04
import Derived.Test.YtjcppneoncpdbaaGreatDoorG08
import Derived.Test.YtjcppneoncpdbaaGreatDoorG11
set_option maxHeartbeats 32000000
set_option maxRecDepth 100000
open Nat renaming mod_eq_of_lt->Ep,mul_comm->EC,le_refl->Ad,zero_le->BA,testBit_two_pow->rq,succ_mul->Agm,add_assoc->VM,le_trans->AL,lt_of_lt_of_le->Bg,le_of_lt->FB,lt_of_le_of_lt->Ej
open List renaming map_set->Nl,set_append_right->KZ,replicate->Bf,getElem?_cons_zero->Ac,getElem?_cons_succ->Ae,take_zero->Aa5,set_cons_zero->Aj,set_cons_succ->Am,cons_append->BI,nil_append->DN,map_cons->Bo,map_nil->Em,getElem?_map->BC,getElem?_append_right->BX,take_of_length_le->DV,length_map->CO,length_drop->Au,length_take->Dt,getD_eq_getElem?_getD->AZ,getElem?_eq_getElem->Af,getElem?_take->CG,flatten_cons->Jw,getElem?_append_left->CE,length_append->Az,length_cons->Bh,length_nil->D8,ext_getElem->DX,getElem_mem->BD,map_append->DR,eq_nil_of_length_eq_zero->Bj,mem_cons_self->Be,nodup_nil->Np,mem_singleton->BM,mem_cons_of_mem->Bi,mem_append_left->Bl,append_assoc->AA,mem_append->LU,mem_append_right->Bc
open Go.Lib renaming hid->Aa
open Array renaming toArray_toList->jS
open Int renaming toNat_natCast->Bq,ofNat->CV
namespace Go.Proofs.YtjcppneoncpdbaaGreatDoor
open Go.RowKit
theorem Ab8:∀n:Fin 41,bits BinOp.or .u64 3 ((n.val:Int)*65536)=((Gp n.val false:Nat):Int):=by decide+kernel
theorem yQ:bits BinOp.or .u64 (bits BinOp.or .u64 3 (((0:Nat):Int)*65536)) 256=((Gp 0 true:Nat):Int):=by decide+kernel
theorem Ab9(o b j:Nat)(ho:o<256^j)(hb:b<256)(hj:j<8):bits .or .u64 (o:Int) (IntKind.u64.wrap (IntKind.u64.wrap (b:Int)*2^(j*8)))=((o+b*256^j:Nat):Int):=by
 have h:=pR o b j hb hj;have e:(o:Int)%256^j=(o:Int):=by
  have e1:(o:Int)%256^j=((o%256^j:Nat):Int):=by rw [Int.natCast_emod,Int.natCast_pow];rfl
  rw [e1,Ep ho]
 rw [e,Ep ho,EC 8 j]at h;exact h
def Ld(r:Rc)(k:Nat):List Value:=([UInt64.ofNat (Gp r.text.size r.gone),r.stamp,r.next]++textW (r.text.data.toList.take k)).map wv
theorem mW(r:Rc)(k:Nat)(hk:k<r.text.size)(v:Nat)(hv:v=(J5 (r.text.data.toList.take k) (k/8)).toNat+r.text[k].toNat*256^(k%8)):(Ld r k).set (3+k/8) (.int .u64 (v:Int))=Ld r (k+1):=by
 have hl:k<r.text.data.toList.length:=hk;have h1:=VY r.text.data.toList k hl;have e:r.text.data.toList[k]=r.text[k]:=rfl;rw [e,<-hv]at h1;unfold Ld;rw [<-kQ r.text.data.toList k hl (J5 (r.text.data.toList.take (k+1)) (k/8)) (by rw [e,<-hv];exact h1),<-h1];rw [show Value.int IntKind.u64 ((J5 (r.text.data.toList.take (k+1)) (k/8)).toNat:Int)=wv (J5 (r.text.data.toList.take (k+1)) (k/8))from rfl,<-Nl,KZ _ _ (by simp)];congr 3;simp
def mX(r:Rc)(w:World)(e:Ending)(w':World):Prop:=
 Below w.heap.size w w'/\if DK r=true then∃g,e= .returned (.tuple #[.slice (some ⟨g,0,none⟩) 8 8,.bool true])/\w'.ownsRow w.heap.size 23 1 (.slice (some ⟨g,0,none⟩) 8 8) 8 ((Dl r).map wv)
  else e= .returned (.tuple #[.slice none 0 0,.bool false])
theorem Zd(r:Rc)(w:World)(hs:r.text.size<=4294967296):Calls Tryz.prog 137 #[gY r] w (mX r w):=by
 obtain⟨W,hW⟩:∃W,W=w.alloc (.cells #[.int .u64 (r.stamp.toNat:Int),.int .u64 (r.next.toNat:Int),.bool r.gone,.string r.text] 89):=⟨_,rfl⟩;have B:BH W w.heap.size 89 [.int .u64 (r.stamp.toNat:Int),.int .u64 (r.next.toNat:Int),.bool r.gone,.string r.text]:=hW▸heap_alloc_new _ _;have hb:Below w.heap.size w W:=hW▸(Below.refl _ _).alloc (Ad _) _;obtain⟨y0,y1,y2,y3,_,_,_,_⟩:=Cb B;have HB:=Aa hb;have HK:=Aa B;have HR:=Aa (yP r W hs);unfold gY at HR⊢;have HW:=Aa hW;rw [hW]at y0 y1 y2 y3;clear B hb hW;have hmk:∀W:World,(Instr.makeSlice 129 (.int .i64 8) (.int .i64 8)).run Tryz.prog W= .ok (.slice (some ⟨W.heap.size,0,none⟩) 8 8) (W.alloc (.cells (madeCells (Value.int .u64 0).cells (8*1)) 23)):=fun W=>by
  obtain⟨i0,hi,hz0,hz1,hz2⟩:=info_parts Tryz.eX;have:=run_make (P:=Tryz.prog) (w:=W) 129 23 i0 (.int .u64 0) Tryz.underlying129 hi hz0 .i64 .i64 8 8 (by omega) (by omega) (by rw [hz2];omega) (by omega);rw [hz1]at this;simpa using this
 have hzc:(madeCells (Value.int .u64 0).cells (8*1)).toList=(Bf 8 (0:UInt64)).map wv:=J9 8;obtain⟨zc,hz⟩:∃zc,madeCells (Value.int .u64 0).cells (8*1)=zc:=⟨_,rfl⟩;rw [hz]at hmk hzc;have HZ:=Aa hzc;clear hz hzc;cases hR:DK r with
 | false=>
   have HV:=Aa hR;rw [hR]at HR;clear hR;go_enter Tryz.func137,Tryz.ntmps137
   go_wp2_with fail
   rw [<-HW.out];refine HR.out.mono ?_;rintro e w1⟨rfl,hb1⟩;have HB1:=Aa (HB.out.trans (hb1.mono HB.out.size));clear HR hb1
   go_wp2_with fail
   go_ret2;refine⟨HB1.out,?_⟩;rw [if_neg (by rw [HV.out];exact Bool.false_ne_true)];rfl
 | true=>
   have HV:=Aa hR;rw [hR]at HR;have h40:=((IU r).1 hR).2.1;clear hR;go_enter Tryz.func137,Tryz.ntmps137
   go_wp2_with fail
   rw [<-HW.out];refine HR.out.mono ?_;rintro e w1⟨rfl,hb1⟩;have HB1:=Aa (HB.out.trans (hb1.mono HB.out.size));have B1:=HK.out.below hb1 HK.out.lt;obtain⟨z0,z1,z2,z3,_,_,_,_⟩:=Cb B1;have HK1:=Aa B1;clear HR hb1 B1 y0 y1 y2 y3;obtain⟨W2,hW2⟩:∃W2,W2=w1.alloc (.cells zc 23):=⟨_,rfl⟩;have hm1:=hmk w1;rw [<-hW2]at hm1;obtain⟨g,hg⟩:∃g,g=w1.heap.size:=⟨_,rfl⟩;have hlt:=HK1.out.lt;have hne:w.heap.size≠g:=by omega
   have B2:BH W2 g 23 [.int .u64 0,.int .u64 0,.int .u64 0,.int .u64 0,.int .u64 0,.int .u64 0,.int .u64 0,.int .u64 0]:=by
    have e:[Value.int .u64 0,.int .u64 0,.int .u64 0,.int .u64 0,.int .u64 0,.int .u64 0,.int .u64 0,.int .u64 0]=zc.toList:=by rw [HZ.out];rfl
    rw [e];unfold BH;rw [hW2,hg,jS];exact heap_alloc_new _ _
   have K2:BH W2 w.heap.size 89 _:=(hW2▸heap_alloc_old _ _ HK1.out.lt:W2.heap[w.heap.size]? =w1.heap[w.heap.size]?).trans HK1.out;have hb2:Below g w1 W2:=by rw [hW2,hg];exact(Below.refl _ _).alloc (Ad _) _
   have HG:=Aa hg;rw [<-hg]at hm1;have HX0:Hid ((W2.heap.size:Nat)=W2.heap.size):=Aa rfl;clear hW2 hg hmk;have facts:∀(W:World)(xs:List Value),BH W g 23 xs->∀k,k<xs.length->(∃v,W.cell? ⟨g,k,none⟩=some v)/\W.frozen? ⟨g,k,none⟩=false:=fun W xs h k hk=>⟨⟨_,h.has hk⟩,h.frozen k⟩
   have HF:=Aa facts;clear facts;obtain⟨X,hX⟩:∃X,X=Value.int .u64 (bits BinOp.or .u64 3 ((r.text.size:Int)*65536)):=⟨_,rfl⟩;cases hgn:r.gone with
   | false=>
     have jY:=Aa hgn;have B3:=B2.AV 0 X;have K3:=K2.far hne 0 X;have B4:=B3.AV 1 (.int .u64 (r.stamp.toNat:Int));have K4:=K3.far hne 1 (.int .u64 (r.stamp.toNat:Int));have B5:=B4.AV 2 (.int .u64 (r.next.toNat:Int));have K5:=K4.far hne 2 (.int .u64 (r.next.toNat:Int));have MF:=Aa B5;have wW:=Aa K5;obtain⟨⟨v2,c2⟩,f2⟩:=HF.out _ _ B2 0 (by simp);obtain⟨⟨v3,c3⟩,f3⟩:=HF.out _ _ B3 1 (by simp);obtain⟨⟨v4,c4⟩,f4⟩:=HF.out _ _ B4 2 (by simp);have a23:=K2.cell 3;have a32:=K3.cell 2;have a30:=K3.cell 0;have a41:=K4.cell 1;have a53:=K5.cell 3;simp only [Ac,Ae,hgn]at a23 a32 a30 a41 a53;rw [hX]at a32 a30 a41 a53 c3 f3 c4 f4;clear B2 K2 B3 K3 B4 K4 B5 K5 hgn;have HR0:Hid (BH ((((W2.setCell ⟨g,0,none⟩ (Value.int .u64 (bits BinOp.or .u64 3 ((r.text.size:Int)*65536)))).setCell ⟨g,1,none⟩ (.int .u64 (r.stamp.toNat:Int))).setCell ⟨g,2,none⟩ (.int .u64 (r.next.toNat:Int)))) g 23 (Ld r 0)):=Aa (by
      have h:=MF.out;rw [hX]at h;unfold Ld;rw [jY.out,Aa5,VZ];have e:bits BinOp.or .u64 3 ((r.text.size:Int)*65536)=((Gp r.text.size false:Nat):Int):=Ab8 ⟨r.text.size,by omega⟩;have e2:=Oy h40 false;simp only [Aj,Am,e]at h;simp only [BI,DN,Bo,Em,wv,e,e2,show(((0:UInt64).toNat:Nat):Int)=0 from rfl];exact h)
     have HB0:Hid (Below g w1 ((((W2.setCell ⟨g,0,none⟩ (Value.int .u64 (bits BinOp.or .u64 3 ((r.text.size:Int)*65536)))).setCell ⟨g,1,none⟩ (.int .u64 (r.stamp.toNat:Int))).setCell ⟨g,2,none⟩ (.int .u64 (r.next.toNat:Int))))):=Aa (((hb2.setCell (p:=⟨g,0,none⟩) (Ad _) _).setCell (p:=⟨g,1,none⟩) (Ad _) _).setCell (p:=⟨g,2,none⟩) (Ad _) _);clear hX MF wW HF HX0 HZ hb2
     go_wp2_with fail
     clear a23 a32 a30 a41 a53 c2 f2 c3 f3 c4 f4;generalize((((W2.setCell ⟨g,0,none⟩ (Value.int .u64 (bits BinOp.or .u64 3 ((r.text.size:Int)*65536)))).setCell ⟨g,1,none⟩ (.int .u64 (r.stamp.toNat:Int))).setCell ⟨g,2,none⟩ (.int .u64 (r.next.toNat:Int))))=W5 at*;generalize bits BinOp.or .u64 3 ((r.text.size:Int)*65536)=hd0 at*
     go_loopw [36](fun i wr=>∃k:Nat,k<=r.text.size/\i= .int .i64 (k:Nat)/\BH wr g 23 (Ld r k)/\Below g w1 wr)(fun i _=>r.text.size- (intOf i).toNat)
     case atStart=>exact⟨0,BA _,rfl,HR0.out,HB0.out⟩
     case round=>
      obtain⟨k,hk,rfl,hrow,hbr⟩:=hrel;have gp:=Aa hrow;have Py:=Aa hbr;clear hrow hbr;by_cases hlt2:k<r.text.size
      ·have hcell:=gp.out.cell (3+k/8);have hfz:=gp.out.frozen (3+k/8);have hget:(Ld r k)[3+k/8]? =some (.int .u64 ((J5 (r.text.data.toList.take k) (k/8)).toNat:Int)):=by
        unfold Ld;rw [BC,BX (by simp),show 3+k/8- [UInt64.ofNat (Gp r.text.size r.gone),r.stamp,r.next].length=k/8 by simp,textW,BC,List.getElem?_range (by omega)];rfl
       rw [hget]at hcell;have hx3:wr.cell? ⟨w.heap.size,3,none⟩=some (.string r.text):=by
        have:=(HK1.out.below Py.out (by have:=HG.out;omega:w.heap.size<g)).cell 3;simpa using this
       have hkk:k/8<=4:=by omega
       obtain⟨o,ho⟩:∃o,J5 (r.text.data.toList.take k) (k/8)=o:=⟨_,rfl⟩;have HO:=Aa ho;rw [ho]at hcell;have Aca:=Aa (Ab9 o.toNat r.text[k].toNat (k%8) (by rw [<-ho];exact kP _ _) (r.text[k]).toNat_lt (by omega));have Acb:Hid (BH ((wr.setCell ⟨g,3+k/8,none⟩ (.int .u64 ((o.toNat+r.text[k].toNat*256^(k%8):Nat):Int))).drew) g 23 (Ld r (k+1))):=Aa (by
        have h:=(gp.out.AV (3+k/8) (.int .u64 ((o.toNat+r.text[k].toNat*256^(k%8):Nat):Int))).drew;rw [mW r k hlt2 _ (by rw [ho])]at h;exact h)
       have HNb:Hid (Below g w1 ((wr.setCell ⟨g,3+k/8,none⟩ (.int .u64 ((o.toNat+r.text[k].toNat*256^(k%8):Nat):Int))).drew)):=Aa ((Py.out.setCell (p:=⟨g,3+k/8,none⟩) (Ad _) _).drew);clear hget ho
       go_wp2_with fail
       go_region;rw [Aca.out]
       go_wp2_with fail
       go_roundw
       case rel=>exact⟨k+1,by omega,by go_num,Acb.out,HNb.out⟩
       case measure=>simp [intOf];omega
      ·have hkn:k=r.text.size:=by omega
       subst hkn;have HE:Hid (Ld r r.text.size=(Dl r).map wv):=Aa (by
        unfold Ld Dl;rw [DV (show r.text.data.toList.length<=r.text.size from Ad _)])
       go_wp2_with fail
       go_ret2;refine⟨HB1.out.trans (Py.out.mono (by have:=HG.out;have:=HB1.out.size;omega)),?_⟩;rw [if_pos HV.out];have hO:=gp.out.own (B:=w.heap.size) (by have:=HG.out;have:=HB1.out.size;omega) (by rw [HE.out,CO,Gq];decide);rw [HE.out,CO,Gq]at hO;exact⟨g,rfl,hO⟩
   | true=>
     have jY:=Aa hgn;have hz0:r.text.size=0:=((IU r).1 HV.out).2.2 hgn;have HZ0:=Aa hz0;clear hz0;obtain⟨Y,hY⟩:∃Y,Y=Value.int .u64 (bits BinOp.or .u64 (bits BinOp.or .u64 3 ((r.text.size:Int)*65536)) 256):=⟨_,rfl⟩;have B3:=B2.AV 0 X;have K3:=K2.far hne 0 X;have B4:=B3.AV 0 Y;have K4:=K3.far hne 0 Y;have B5:=B4.AV 1 (.int .u64 (r.stamp.toNat:Int));have K5:=K4.far hne 1 (.int .u64 (r.stamp.toNat:Int));have B6:=B5.AV 2 (.int .u64 (r.next.toNat:Int));have K6:=K5.far hne 2 (.int .u64 (r.next.toNat:Int));have Qs:=Aa B6;have HK6:=Aa K6;obtain⟨⟨v2,c2⟩,f2⟩:=HF.out _ _ B2 0 (by simp);have c3:=B3.cell 0;have f3:=B3.frozen 0;obtain⟨⟨v4,c4⟩,f4⟩:=HF.out _ _ B4 1 (by simp);obtain⟨⟨v5,c5⟩,f5⟩:=HF.out _ _ B5 2 (by simp);have a23:=K2.cell 3;have a32:=K3.cell 2;have a40:=K4.cell 0;have a51:=K5.cell 1;have a63:=K6.cell 3;simp only [Ac,Ae,Aj,hgn]at a23 a32 a40 a51 a63 c3;rw [hX]at a32 c3 f3 a40 c4 f4 a51 c5 f5 a63;rw [hY]at a40 c4 f4 a51 c5 f5 a63;clear B2 K2 B3 K3 B4 K4 B5 K5 B6 K6 hgn;have HR0:Hid (BH (((((W2.setCell ⟨g,0,none⟩ (Value.int .u64 (bits BinOp.or .u64 3 ((r.text.size:Int)*65536)))).setCell ⟨g,0,none⟩ (Value.int .u64 (bits BinOp.or .u64 (bits BinOp.or .u64 3 ((r.text.size:Int)*65536)) 256))).setCell ⟨g,1,none⟩ (.int .u64 (r.stamp.toNat:Int))).setCell ⟨g,2,none⟩ (.int .u64 (r.next.toNat:Int)))) g 23 (Ld r 0)):=Aa (by
      have h:=Qs.out;rw [hX,hY]at h;unfold Ld;rw [jY.out,Aa5,VZ];have e:bits BinOp.or .u64 (bits BinOp.or .u64 3 ((r.text.size:Int)*65536)) 256=((Gp r.text.size true:Nat):Int):=by rw [HZ0.out];exact yQ
      have e2:=Oy h40 true;simp only [Aj,Am,e]at h;simp only [BI,DN,Bo,Em,wv,e,e2,show(((0:UInt64).toNat:Nat):Int)=0 from rfl];exact h)
     have HB0:Hid (Below g w1 (((((W2.setCell ⟨g,0,none⟩ (Value.int .u64 (bits BinOp.or .u64 3 ((r.text.size:Int)*65536)))).setCell ⟨g,0,none⟩ (Value.int .u64 (bits BinOp.or .u64 (bits BinOp.or .u64 3 ((r.text.size:Int)*65536)) 256))).setCell ⟨g,1,none⟩ (.int .u64 (r.stamp.toNat:Int))).setCell ⟨g,2,none⟩ (.int .u64 (r.next.toNat:Int))))):=Aa ((((hb2.setCell (p:=⟨g,0,none⟩) (Ad _) _).setCell (p:=⟨g,0,none⟩) (Ad _) _).setCell (p:=⟨g,1,none⟩) (Ad _) _).setCell (p:=⟨g,2,none⟩) (Ad _) _);clear hX hY Qs HK6 HF HX0 HZ hb2
     go_wp2_with fail
     clear a23 a32 a40 a51 a63 c2 f2 c3 f3 c4 f4 c5 f5;generalize(((((W2.setCell ⟨g,0,none⟩ (Value.int .u64 (bits BinOp.or .u64 3 ((r.text.size:Int)*65536)))).setCell ⟨g,0,none⟩ (Value.int .u64 (bits BinOp.or .u64 (bits BinOp.or .u64 3 ((r.text.size:Int)*65536)) 256))).setCell ⟨g,1,none⟩ (.int .u64 (r.stamp.toNat:Int))).setCell ⟨g,2,none⟩ (.int .u64 (r.next.toNat:Int))))=W5 at*;generalize bits BinOp.or .u64 (bits BinOp.or .u64 3 ((r.text.size:Int)*65536)) 256=hd1 at*;generalize bits BinOp.or .u64 3 ((r.text.size:Int)*65536)=hd0 at*
     go_loopw [36](fun i wr=>∃k:Nat,k<=r.text.size/\i= .int .i64 (k:Nat)/\BH wr g 23 (Ld r k)/\Below g w1 wr)(fun i _=>r.text.size- (intOf i).toNat)
     case atStart=>exact⟨0,BA _,rfl,HR0.out,HB0.out⟩
     case round=>
      obtain⟨k,hk,rfl,hrow,hbr⟩:=hrel;have gp:=Aa hrow;have Py:=Aa hbr;clear hrow hbr;have hkn:k=r.text.size:=by have:=HZ0.out;omega
      subst hkn;have HE:Hid (Ld r r.text.size=(Dl r).map wv):=Aa (by
       unfold Ld Dl;rw [DV (show r.text.data.toList.length<=r.text.size from Ad _)])
      go_wp2_with fail
      go_ret2;refine⟨HB1.out.trans (Py.out.mono (by have:=HG.out;have:=HB1.out.size;omega)),?_⟩;rw [if_pos HV.out];have hO:=gp.out.own (B:=w.heap.size) (by have:=HG.out;have:=HB1.out.size;omega) (by rw [HE.out,CO,Gq];decide);rw [HE.out,CO,Gq]at hO;exact⟨g,rfl,hO⟩
def Akr:Value:= .agg #[.int .u64 0,.int .u64 0,.bool false,.string ⟨#[]⟩]
def mY(l:List UInt64)(w:World)(e:Ending)(w':World):Prop:=
 Below w.heap.size w w'/\match LZ l with
  | none=>e= .returned (.tuple #[Akr,.bool false])
  | some r=>e= .returned (.tuple #[gY r,.bool true])
theorem VC{Q:Ending->World->Prop}{W:World}{tmps:Array Value}{fn:Func}(hr:fn.results= #[.cell 2 89,.tmp 3])(g:Nat){a b c d:Value}(h:BH W g 89 [a,b,c,d])(v:Value)(h2:tmps[2]? =some (.pointer (some ⟨g,0,none⟩)))(h3:tmps[3]? =some v)
 (hq:Q (.returned (.tuple #[.agg #[a,b,c,d],v])) W):bodyPost Tryz.prog fn Q Exit.ret {tmps:=tmps,defers:=[]} W:=by
 obtain⟨y0,y1,y2,y3,f0,f1,f2,f3⟩:=Cb h;have hu:=run_underlying (P:=Tryz.prog) Tryz.underlying89;refine bodyPost_ret (v:= .tuple #[.agg #[a,b,c,d],v]) (by simp [results,hr,go_sem,h2,h3,y0,y1,y2,y3]) rfl hq
def OZ(l:List UInt64)(m k:Nat):List UInt8:=(leBytes (l.drop 3)).take k++Bf (m-k) 0
theorem Ze(l:List UInt64)(m k:Nat)(hl:l.length=8)(hm:m<=40)(hk:k<=m):(OZ l m k).length=m:=by
 unfold OZ;have:=leBytes_length (l.drop 3);simp at this;simp;omega
theorem mZ(l:List UInt64)(m k:Nat)(hl:l.length=8)(hm:m<=40)(hk:k<m)(h3:3+k/8<l.length):(OZ l m k).set k (leB l[3+k/8] (k%8))=OZ l m (k+1):=by
 have hT:=leBytes_length (l.drop 3);rw [Au,hl]at hT;have hb:=Hq (l.drop 3) (k/8) (k%8) (by rw [Au];omega) (by omega);rw [show 8*(k/8)+k%8=k by omega,List.getElem_drop]at hb;unfold OZ;rw [KZ _ _ (by rw [Dt];omega),Dt,Nat.min_eq_left (by omega),Nat.sub_self];obtain⟨d,hd⟩:∃d,m-k=d+1:=⟨m-k-1,by omega⟩;rw [hd,show m- (k+1)=d by omega,List.replicate_succ,Aj,List.take_add_one,hb];simp
theorem Aks(n:Nat)(hn:n<18446744073709551616):(bits BinOp.and .u64 (n:Int) 256 !=0)=decide (n/256%2=1):=by
 have h:=u64_and_nat n 256 hn (by decide);rw [show((256:Nat):Int)=256 from rfl]at h;rw [h];have hb:n&&&256=if n.testBit 8 then 256 else 0:=by
  apply Nat.eq_of_testBit_eq;intro i;rw [Nat.testBit_and,show 256=2^8 from rfl,rq];by_cases hi:8=i
  ·subst hi;cases n.testBit 8
   ·rfl
   ·decide
  ·rw [decide_eq_false hi,Bool.and_false];split
   ·rw [rq,decide_eq_false hi]
   ·simp
 rw [hb,Nat.testBit_eq_decide_div_mod_eq];by_cases hd:n/2^8%2=1
 ·rw [if_pos (decide_eq_true hd),decide_eq_true (by simpa using hd)];rfl
 ·rw [if_neg (by rw [decide_eq_false hd];exact Bool.false_ne_true),decide_eq_false (by simpa using hd)];rfl
theorem byte_of(x:UInt64)(j:Nat):(x.toNat:Int)/2^(j*8)%256=((leB x j).toNat:Int):=by
 have:=fF x j;rw [EC 8 j]at this;exact this
theorem uk(l:List UInt64)(A:Option Addr)(c:Nat)(w:World)(_:8<=c)(h:Ws w A 8 l):Calls Tryz.prog 104 #[.slice A 8 c] w (mY l w):=by
 have hlen:=h.len;obtain⟨q0,b,off,rfl,hbl,c0⟩:=h.at (show 0<8 by decide);obtain⟨W,hW⟩:∃W,W=w.alloc (.cells #[.int .u64 0,.int .u64 0,.bool false,.string ⟨#[]⟩] 89):=⟨_,rfl⟩;have B:BH W w.heap.size 89 [.int .u64 0,.int .u64 0,.bool false,.string ⟨#[]⟩]:=hW▸heap_alloc_new _ _;have hb:Below w.heap.size w W:=hW▸(Below.refl _ _).alloc (Ad _) _;obtain⟨n0,hn0⟩:∃n,n=l[0].toNat:=⟨_,rfl⟩;have Abx:n0<18446744073709551616:=hn0▸UInt64.toNat_lt _;have hD0:(l.getD 0 0).toNat=n0:=by rw [hn0,AZ,Af q0];rfl
 rw [<-hn0]at c0;have HN0:=Aa hn0;have HD0:=Aa hD0;clear hn0 hD0;have d0:W.cell? ⟨b,off,none⟩=some (.int .u64 (n0:Int)):=by have:=(hb.cell (p:=⟨b,off+0,none⟩) hbl).trans c0;simpa using this
 have HW:=Aa hW;have HB:=Aa hb;have HK:=Aa B;obtain⟨y0,y1,y2,y3,f0,f1,f2,f3⟩:=Cb B;rw [hW]at d0 y0 y1 y2 y3 f0 f1 f2 f3;clear hb B hW;by_cases h40:40<n0/65536
 ·have t1:decide ((40:Int)<(n0:Int)/65536)=true:=decide_eq_true (by omega);have HV:Hid (LZ l=none):=Aa (by unfold LZ;rw [if_neg (by rintro⟨_,h⟩;rw [HD0.out]at h;omega)]);go_enter Tryz.func104,Tryz.ntmps104
  go_wp2_with fail
  rw [<-HW.out];refine VC rfl w.heap.size HK.out (.bool false) rfl rfl ⟨HB.out,?_⟩;rw [HV.out];rfl
 ·have t1:decide ((40:Int)<(n0:Int)/65536)=false:=decide_eq_false (by omega);obtain⟨m,hm⟩:∃m,m=n0/65536:=⟨_,rfl⟩;have uo:m<=40:=by omega
  have hmk:∀W:World,(Instr.makeSlice 39 (.int .u64 ((n0:Int)/65536)) (.int .u64 ((n0:Int)/65536))).run Tryz.prog W= .ok (.slice (some ⟨W.heap.size,0,none⟩) m m) (W.alloc (.cells (madeCells (Value.int .u8 0).cells (m*1)) 5)):=fun W=>by
   obtain⟨i0,hi,hz0,hz1,hz2⟩:=info_parts Tryz.FC.hi;have e:(n0:Int)/65536=(m:Int):=by omega
   rw [e];have:=run_make (P:=Tryz.prog) (w:=W) 39 5 i0 (.int .u8 0) Tryz.underlying39 hi hz0 .u64 .u64 (m:Int) (m:Int) (by omega) (by omega) (by rw [hz2];omega) (by omega);rw [hz1]at this;simpa using this
  obtain⟨W2,hW2⟩:∃W2,W2=W.alloc (.cells (madeCells (Value.int .u8 0).cells (m*1)) 5):=⟨_,rfl⟩;have hm1:=hmk W;rw [<-hW2]at hm1;obtain⟨tb,htb⟩:∃tb,tb=W.heap.size:=⟨_,rfl⟩;rw [<-htb]at hm1;have hWs:W.heap.size=w.heap.size+1:=by rw [HW.out];simp
  have B2:BH W2 tb 5 ((OZ l m 0).map bv):=by
   have e:(OZ l m 0).map bv=(madeCells (Value.int .u8 0).cells (m*1)).toList:=by rw [Oo];simp [OZ]
   rw [e];unfold BH;rw [hW2,htb,jS];exact heap_alloc_new _ _
  have hb2:Below tb W W2:=by rw [hW2,htb];exact(Below.refl _ _).alloc (Ad _) _
  have HB2:=Aa B2;have Hb2:=Aa hb2;have HM:=Aa hm;have wS:Hid (tb=w.heap.size+1):=Aa (by omega);have Amo:=Aa htb;rw [HW.out]at hm1;clear B2 hb2 hW2 hmk hm htb hWs;go_enter Tryz.func104,Tryz.ntmps104
  go_wp2_with fail
  go_loopw [27](fun i wr=>∃k:Nat,k<=m/\i= .int .i64 (k:Nat)/\BH wr tb 5 ((OZ l m k).map bv)/\Below tb W wr)(fun i _=>m- (intOf i).toNat)
  case atStart=>exact⟨0,BA _,rfl,HB2.out,Hb2.out⟩
  case round=>
   obtain⟨k,hk,rfl,hrow,hbr⟩:=hrel;have gp:=Aa hrow;have Py:=Aa hbr;have gq:=Aa (HB.out.trans (hbr.mono (by have:=wS.out;omega)));clear hrow hbr;by_cases hlt2:k<m
   ·have hk8:3+k/8<8:=by omega
    obtain⟨hq,b',off',e',_,hcell⟩:=(h.below gq.out).at hk8;injection e' with e'
    injection e' with e1 e2
    subst e1 e2;have hlen2:=Ze l m k hlen uo (by omega);obtain⟨v0,hv0⟩:∃v,wr.cell? ⟨tb,k,none⟩=some v:=⟨_,gp.out.has (i:=k) (by rw [CO];omega)⟩;have hfz:=gp.out.frozen k;have Aca:=Aa (byte_of l[3+k/8] (k%8));have Acb:Hid (BH (wr.setCell ⟨tb,k,none⟩ (.int .u8 ((leB l[3+k/8] (k%8)).toNat:Int))) tb 5 ((OZ l m (k+1)).map bv)):=Aa (by
     rw [<-mZ l m k hlen uo hlt2 hq,Nl];exact gp.out.AV k _)
    have HNb:Hid (Below tb W (wr.setCell ⟨tb,k,none⟩ (.int .u8 ((leB l[3+k/8] (k%8)).toNat:Int)))):=Aa (Py.out.setCell (p:=⟨tb,k,none⟩) (Ad _) _);obtain⟨x,hx⟩:∃x,l[3+k/8]=x:=⟨_,rfl⟩;rw [hx]at hcell Aca Acb HNb;clear hx hlen2
    go_wp2_with fail
    rw [Aca.out];go_roundw
    case rel=>exact⟨k+1,by omega,by go_num,Acb.out,HNb.out⟩
    case measure=>simp [intOf];omega
   ·have hkm:k=m:=by omega
    subst hkm;obtain⟨q1,b1,Amq,e1',_,cell1⟩:=(h.below gq.out).at (show 1<8 by decide);injection e1' with e1'
    injection e1' with e11 e12
    subst e11 e12;obtain⟨q2,b2,Aa9,e2',_,cell2⟩:=(h.below gq.out).at (show 2<8 by decide);injection e2' with e2'
    injection e2' with e21 e22
    subst e21 e22;have cell0:wr.cell? ⟨b,off,none⟩=some (.int .u64 (n0:Int)):=by have:=(gq.out.cell (p:=⟨b,off+0,none⟩) hbl).trans c0;simpa using this
    obtain⟨tx,htx⟩:∃tx:ByteArray,tx=⟨((leBytes (l.drop 3)).take k).toArray⟩:=⟨_,rfl⟩;have hLk:OZ l k k=(leBytes (l.drop 3)).take k:=by simp [OZ]
    have hBs:Bs wr (some ⟨tb,0,none⟩) k ((leBytes (l.drop 3)).take k):=by
     have:=gp.out.rd;rw [hLk,CO]at this;have e:((leBytes (l.drop 3)).take k).length=k:=by rw [<-hLk];exact Ze l k k hlen uo (Ad _)
     rw [e]at this;exact this
    have hbd:Below wr.heap.size wr wr.drew:=(Dr.drew wr).below _;have hba:Below wr.heap.size wr (wr.alloc (.cells #[.int .u64 0,.int .u64 0,.bool false,.string ⟨#[]⟩] 89)).drew:=((Below.refl _ _).alloc (Ad _) _).trans ((Dr.drew _).below _);have hcv:=JA (P:=Tryz.prog) Tryz.underlying39 Tryz.underlying5 Tryz.underlying9 (hBs.below hbd) k;have hcv2:=JA (P:=Tryz.prog) Tryz.underlying39 Tryz.underlying5 Tryz.underlying9 (hBs.below hba) k;rw [<-htx]at hcv hcv2;clear hbd hba;obtain⟨g,hg⟩:∃g,(bits BinOp.and .u64 (n0:Int) 256 !=0)=g:=⟨_,rfl⟩;obtain⟨x1,hx1⟩:∃x,l[1]=x:=⟨_,rfl⟩;obtain⟨x2,hx2⟩:∃x,l[2]=x:=⟨_,rfl⟩;rw [hx1]at cell1;rw [hx2]at cell2;have HX1:=Aa hx1;have HX2:=Aa hx2;have HG:=Aa hg;have HTx:=Aa htx;clear hx1 hx2 htx hLk hBs
    go_wp2_with fail
    go_region
    all_goals(obtain⟨W9,TQ⟩:∃W9,W9=(wr.alloc (.cells #[.int .u64 (x1.toNat:Int),.int .u64 (x2.toNat:Int),.bool g,.string tx] 89)).drew:=⟨_,rfl⟩)
    all_goals(have B9:BH W9 wr.heap.size 89 [.int .u64 (x1.toNat:Int),.int .u64 (x2.toNat:Int),.bool g,.string tx]:=by rw [TQ];exact heap_alloc_new _ _)
    all_goals(have Ae5:Below wr.heap.size wr W9:=by rw [TQ];exact((Below.refl _ _).alloc (Ad _) _).trans ((Dr.drew _).below _))
    all_goals(have VD:=gq.out.trans (Ae5.mono gq.out.size))
    all_goals(have K9:BH W9 w.heap.size 89 _:=(HK.out.below Py.out (by have:=wS.out;omega)).below Ae5 (by have:=Py.out.size;have:=HK.out.lt;omega))
    all_goals(have hWr:w.heap.size<wr.heap.size:=by have:=Py.out.size;have:=HK.out.lt;omega)
    all_goals(have HE:=Aa (Zd ⟨x1,x2,g,tx⟩ W9 (by show tx.size<=_;have h1:tx.size=((leBytes (l.drop 3)).take k).length:=(by rw [HTx.out];rfl);rw [h1,Dt];omega)))
    all_goals(rw [<-TQ])
    all_goals(unfold gY at HE)
    all_goals(obtain⟨u0,u1,u2,u3,_,_,_,_⟩:=Cb B9)
    all_goals(have HC:Hid (QU l=⟨x1,x2,g,tx⟩):=Aa (by
     have a1:l.getD 1 0=x1:=by rw [AZ,Af q1];exact HX1.out
     have a2:l.getD 2 0=x2:=by rw [AZ,Af q2];exact HX2.out
     have a3:decide (n0/256%2=1)=g:=by rw [<-HG.out];exact(Aks n0 Abx).symm
     unfold QU;rw [a1,a2,HD0.out,a3,<-HM.out,<-HTx.out]))
    all_goals(have Vw:=Aa B9)
    all_goals(have HK9:=Aa K9)
    all_goals(have Aii:=Aa VD)
    all_goals(clear B9 K9 VD Ae5 TQ cell0 cell1 cell2 hcv hcv2 hg)
    all_goals(go_wp2_with fail)
    all_goals(refine HE.out.mono ?_)
    all_goals(rintro e w10⟨MI,ni⟩)
    all_goals(have qm:=Aii.out.trans (MI.mono Aii.out.size))
    all_goals(have K10:=HK9.out.below MI HK9.out.lt)
    all_goals(have B10:=Vw.out.below MI Vw.out.lt)
    all_goals(cases hR:DK ⟨x1,x2,g,tx⟩)
    all_goals(rw [hR]at ni)
    all_goals(have yR:=Aa K10)
    all_goals(have yS:=Aa qm)
    all_goals(have Ti:=Aa B10)
    all_goals(clear HE u0 u1 u2 u3 MI)
    all_goals first
     | (replace ni:e= .returned (.tuple #[.slice none 0 0,.bool false]):=ni
        subst ni;have HV:Hid (LZ l=none):=Aa (by unfold LZ;rw [if_pos ⟨hlen,by rw [HD0.out,<-HM.out];exact uo⟩,HC.out,hR];simp);obtain⟨z0,z1,z2,z3,k0,k1,k2,k3⟩:=Cb K10;clear hR K10 B10 qm
        go_wp2_with fail
        have BF:=(((yR.out.AV 0 (.int .u64 0)).AV 1 (.int .u64 0)).AV 2 (.bool false)).AV 3 (.string ⟨#[]⟩);have J6:=(((yS.out.setCell (p:=⟨w.heap.size,0,none⟩) (Ad _) (.int .u64 0)).setCell (p:=⟨w.heap.size,1,none⟩) (Ad _) (.int .u64 0)).setCell (p:=⟨w.heap.size,2,none⟩) (Ad _) (.bool false)).setCell (p:=⟨w.heap.size,3,none⟩) (Ad _) (.string ⟨#[]⟩);refine VC rfl w.heap.size BF (.bool false) rfl rfl ⟨J6,?_⟩;rw [HV.out];rfl)
     | (replace ni:∃g2,e= .returned (.tuple #[.slice (some ⟨g2,0,none⟩) 8 8,.bool true])/\w10.ownsRow W9.heap.size 23 1 (.slice (some ⟨g2,0,none⟩) 8 8) 8 ((Dl ⟨x1,x2,g,tx⟩).map wv):=ni
        obtain⟨g2,rfl,ho⟩:=ni;have heq:=O5 (some ⟨g2,0,none⟩) (some ⟨b,off,none⟩) 8 8 8 c (Dl ⟨x1,x2,g,tx⟩) l w10 (by decide) (by decide) (BK ho).2 (h.below qm);have jV:=Aa heq;clear heq ho B10 K10 qm;by_cases he:Dl ⟨x1,x2,g,tx⟩=l
        ·have HV:Hid (LZ l=some ⟨x1,x2,g,tx⟩):=Aa (by unfold LZ;rw [if_pos ⟨hlen,by rw [HD0.out,<-HM.out];exact uo⟩,HC.out,if_pos ⟨hR,he⟩]);rw [decide_eq_true he]at jV;clear he hR
         go_wp2_with fail
         refine jV.out.mono ?_;rintro e dG⟨rfl,hd⟩;have K11:=yR.out.below (hd.below _) yR.out.lt;have B11:=Ti.out.below (hd.below _) Ti.out.lt;have yT:=Aa (yS.out.trans (hd.below w.heap.size));obtain⟨z0,z1,z2,z3,k0,k1,k2,k3⟩:=Cb K11;obtain⟨u0,u1,u2,u3,_,_,_,_⟩:=Cb B11;have Ae6:=Aa K11;clear K11 B11 hd jV
         go_wp2_with fail
         have BF:=(((Ae6.out.AV 0 (.int .u64 (x1.toNat:Int))).AV 1 (.int .u64 (x2.toNat:Int))).AV 2 (.bool g)).AV 3 (.string tx);have J6:=(((yT.out.setCell (p:=⟨w.heap.size,0,none⟩) (Ad _) (.int .u64 (x1.toNat:Int))).setCell (p:=⟨w.heap.size,1,none⟩) (Ad _) (.int .u64 (x2.toNat:Int))).setCell (p:=⟨w.heap.size,2,none⟩) (Ad _) (.bool g)).setCell (p:=⟨w.heap.size,3,none⟩) (Ad _) (.string tx);refine VC rfl w.heap.size BF (.bool true) rfl rfl ⟨J6,?_⟩;rw [HV.out];rfl
        ·have HV:Hid (LZ l=none):=Aa (by unfold LZ;rw [if_pos ⟨hlen,by rw [HD0.out,<-HM.out];exact uo⟩,HC.out,if_neg (fun h=>he h.2)]);rw [decide_eq_false he]at jV;clear he hR
         go_wp2_with fail
         refine jV.out.mono ?_;rintro e dG⟨rfl,hd⟩;have K11:=yR.out.below (hd.below _) yR.out.lt;have yT:=Aa (yS.out.trans (hd.below w.heap.size));obtain⟨z0,z1,z2,z3,k0,k1,k2,k3⟩:=Cb K11;have Ae6:=Aa K11;clear K11 hd jV
         go_wp2_with fail
         have BF:=(((Ae6.out.AV 0 (.int .u64 0)).AV 1 (.int .u64 0)).AV 2 (.bool false)).AV 3 (.string ⟨#[]⟩);have J6:=(((yT.out.setCell (p:=⟨w.heap.size,0,none⟩) (Ad _) (.int .u64 0)).setCell (p:=⟨w.heap.size,1,none⟩) (Ad _) (.int .u64 0)).setCell (p:=⟨w.heap.size,2,none⟩) (Ad _) (.bool false)).setCell (p:=⟨w.heap.size,3,none⟩) (Ad _) (.string ⟨#[]⟩);refine VC rfl w.heap.size BF (.bool false) rfl rfl ⟨J6,?_⟩;rw [HV.out];rfl)
theorem GL{w:World}{base k n:Nat}{e:TypeId}{v:Value}{xs:List Value}(h:w.ownsRow base e k v n xs):∃A c,v= .slice A n c/\n<=c/\Rd w A (n*k) xs:=by
 rcases h.2 with⟨h1,h2⟩| ⟨g,cap,cur,h1,h2,h3,h4,h5,h6,h7⟩
 ·subst h2;exact⟨none,0,h1,Ad _,h.1,fun hn=>by omega⟩
 ·refine⟨_,_,h1,h4,h.1,fun hn=>⟨g,0,rfl,(Array.getElem?_eq_some_iff.1 h3).1,fun j hj=> ?_⟩⟩;rw [cell_of_row w g _ cur _ (0,0) h3,<-h7,CG,if_pos (by omega)];simp
theorem flat_get{α:Type}(f:α->List Value)(m:Nat)(hf:∀a,(f a).length=m):∀(l:List α)(k i:Nat)(hk:k<l.length),i<m->((l.map f).flatten)[k*m+i]? =(f l[k])[i]?
 | a::t,0,i,_,hi=>by
   rw [Bo,Jw,Nat.zero_mul,Nat.zero_add,CE (by rw [hf];exact hi)];rfl
 | a::t,k+1,i,hk,hi=>by
   rw [Bo,Jw,BX (by rw [hf,Agm];omega),hf,show(k+1)*m+i-m=k*m+i by rw [Agm];omega];exact flat_get f m hf t k i (by simpa using hk) hi
def lkC(k:Lk):List Value:=[.int .i64 k.off,.int .u64 (k.rc.stamp.toNat:Int),.int .u64 (k.rc.next.toNat:Int),.bool k.rc.gone,.string k.rc.text]
def aV(l:List Lk):List Value:=(l.map lkC).flatten
theorem gZ(l:List Lk)(a:Lk):aV (l++[a])=aV l++lkC a:=by simp [aV]
def LkR(w:World)(A:Option Addr)(l:List Lk):Prop:=Rd w A (l.length*5) (aV l)
theorem LkR.below{w w':World}{A:Option Addr}{l:List Lk}(h:LkR w A l)(k:Below w.heap.size w w'):LkR w' A l:=Rd.below h k
theorem LkR.at{w:World}{A:Option Addr}{l:List Lk}(h:LkR w A l)(k:Nat)(hk:k<l.length):∃b off,A=some ⟨b,off,none⟩/\b<w.heap.size/\w.cell? ⟨b,off+k*5,none⟩=some (.int .i64 l[k].off)/\w.cell? ⟨b,off+k*5+1,none⟩=some (.int .u64 (l[k].rc.stamp.toNat:Int))/\
 w.cell? ⟨b,off+k*5+2,none⟩=some (.int .u64 (l[k].rc.next.toNat:Int))/\w.cell? ⟨b,off+k*5+3,none⟩=some (.bool l[k].rc.gone)/\w.cell? ⟨b,off+k*5+4,none⟩=some (.string l[k].rc.text):=by
 obtain⟨b,off,e,hb,hc⟩:=h.2 (by omega);have key:∀i,i<5->w.cell? ⟨b,off+k*5+i,none⟩=(lkC l[k])[i]? :=fun i hi=>by
  rw [VM,hc (k*5+i) (by omega)];exact flat_get lkC 5 (fun _=>rfl) l k i hk hi
 exact⟨b,off,e,hb,key 0 (by decide),key 1 (by decide),key 2 (by decide),key 3 (by decide),key 4 (by decide)⟩
theorem qo{w:World}{base:Nat}{v:Value}{l:List Lk}(h:w.ownsRow base 91 5 v l.length (aV l)):∃A c,v= .slice A l.length c/\l.length<=c/\LkR w A l:=GL h
section
variable{w w':World}{d p L:Nat}{s:St}{F:Nat->Prop}
theorem GU.size{len:Nat->Nat}(h:GU len w d p L s F):Calls Tryz.prog 44 #[.pointer (some ⟨d,0,none⟩)] w fun e w'=>e= .returned (.int .i64 ((L*64:Nat):Int))/\w=w':=by
 obtain⟨tb,hb,n,cT,cH,own,h,_⟩:=h;exact h.dev.size h.L1
theorem GU.pos{len:Nat->Nat}(h:GU len w d p L s F):0<L/\L<=1024/\Yq L s.sh/\s.tk.length=s.sh.BQ:=by
 obtain⟨tb,hb,n,cT,cH,own,h,_⟩:=h;exact⟨h.L0,h.L1,Jn h.shape,by rw [h.Pn,h.YS]⟩
theorem Zf{len:Nat->Nat}(h:GU len w d p L s F):Calls Tryz.prog 102 #[.pointer (some ⟨d,0,none⟩),.pointer (some ⟨p,0,none⟩)] w fun e w'=>e= .returned (.bool false)/\w=w':=by
 have hL0:=h.pos.1;have t0:(((L*64:Nat):Int)==0)=false:=by rw [beq_eq_false_iff_ne];omega
 have hsz:=h.size;generalize L*64=sz at hsz t0;have HS:=Aa hsz;clear hsz h;go_enter Tryz.func102,Tryz.ntmps102
 go_wp2_with fail
 refine HS.out.mono ?_;rintro e w1⟨rfl,rfl⟩
 go_wp2_with fail
 go_ret;exact⟨rfl,rfl⟩
end
def yU(x:Wr):List Value:=[.string x.key,.string x.text,.bool x.gone]
def EE(l:List Wr):List Value:=(l.map yU).flatten
theorem KJ:∀(l:List Wr),(EE l).length=l.length*3
 | []=>rfl
 | a::t=>by
   have:=KJ t;simp only [EE,Bo,Jw,Az,Bh]at this⊢;rw [this];simp [yU];omega
def Hf(w:World)(G:Nat->Prop)(v:Value)(s:List Wr):Prop:=∃A c,v= .slice A s.length c/\s.length<=c/\Ja w G A (s.length*3) (EE s)
theorem Hf.nil{w:World}{G:Nat->Prop}:Hf w G (.slice none 0 0) []:=⟨none,0,rfl,Ad _,Ja.nil⟩
theorem Hf.moved{w w':World}{G G':Nat->Prop}{v:Value}{s:List Wr}(h:Hf w G v s)(m:Aq G G' w w'):Hf w' G' v s:=by
 obtain⟨A,c,e,h1,h2⟩:=h;exact⟨A,c,e,h1,h2.moved m⟩
theorem Hf.below{w w':World}{G:Nat->Prop}{v:Value}{s:List Wr}(h:Hf w G v s)(k:Below w.heap.size w w'):Hf w' G v s:=h.moved (Aq.of_below k)
theorem Hf.mono{w:World}{F G:Nat->Prop}{v:Value}{s:List Wr}(h:Hf w G v s)(k:∀b,b<w.heap.size->F b->G b):Hf w F v s:=by
 obtain⟨A,c,e,h1,h2⟩:=h;exact⟨A,c,e,h1,h2.mono k⟩
theorem Hf.at{w:World}{G:Nat->Prop}{v:Value}{s:List Wr}(h:Hf w G v s)(k:Nat)(hk:k<s.length):∃b off c,v= .slice (some ⟨b,off,none⟩) s.length c/\s.length<=c/\b<w.heap.size/\¬G b/\
 w.cell? ⟨b,off+k*3,none⟩=some (.string s[k].key)/\w.cell? ⟨b,off+k*3+1,none⟩=some (.string s[k].text)/\w.cell? ⟨b,off+k*3+2,none⟩=some (.bool s[k].gone):=by
 obtain⟨A,c,e,hc,hr,hG⟩:=h;obtain⟨b,off,rfl,hb,hcl⟩:=hr.2 (by omega);have key:∀i,i<3->w.cell? ⟨b,off+k*3+i,none⟩=(yU s[k])[i]? :=fun i hi=>by
  rw [VM,hcl (k*3+i) (by omega)];exact flat_get yU 3 (fun _=>rfl) s k i hk hi
 exact⟨b,off,c,e,hc,hb,hG (by omega) _ rfl,key 0 (by decide),key 1 (by decide),key 2 (by decide)⟩
theorem Hf.slice{w:World}{G:Nat->Prop}{v:Value}{s:List Wr}(h:Hf w G v s):∃A c,v= .slice A s.length c:=by
 obtain⟨A,c,e,_⟩:=h;exact⟨A,c,e⟩
theorem Tryz.ig:IE Tryz.prog 45 87 (.agg #[.string ⟨#[]⟩,.string ⟨#[]⟩,.bool false]) 3 40:=⟨Tryz.underlying45,by kernel_rfl,rfl⟩
def ND(x:Wr):Value:= .agg #[.string x.key,.string x.text,.bool x.gone]
theorem NV(x:Wr)(w:World)(h1:x.key.size<=4294967296)(h2:x.text.size<=4294967296):Calls Tryz.prog 90 #[ND x] w fun e w'=>e= .returned (.bool (CX x))/\Below w.heap.size w w':=by
 obtain⟨ky,tx,g⟩:=x;simp only [ND]at h1 h2⊢;obtain⟨W,hW⟩:∃W,W=w.alloc (.cells #[.string ky,.string tx,.bool g] 87):=⟨_,rfl⟩;have B:BH W w.heap.size 87 [.string ky,.string tx,.bool g]:=hW▸heap_alloc_new _ _;have hb:Below w.heap.size w W:=hW▸(Below.refl _ _).alloc (Ad _) _;have y0:=B.cell 0;have y1:=B.cell 1;have y2:=B.cell 2;simp only [Ac,Ae]at y0 y1 y2;have HB:=Aa hb;rw [hW]at y0 y1 y2 HB;have e4:=Xi tx;have E4:=Aa e4;clear B hb hW e4;by_cases hk:16<ky.size
 ·have t1:decide ((16:Int)<(ky.size:Int))=true:=decide_eq_true (by omega);have HV:Hid (CX ⟨ky,tx,g⟩=false):=Aa (by
   unfold CX;rw [show decide (ky.size<=16)=false from decide_eq_false (by omega)];rfl)
  clear hk;go_enter Tryz.func90,Tryz.ntmps90
  go_wp2_with fail
  go_ret;exact⟨by rw [HV.out];rfl,HB.out⟩
 ·have t1:decide ((16:Int)<(ky.size:Int))=false:=decide_eq_false (by omega);by_cases ht:40<tx.size
  ·have t2:decide ((40:Int)<(tx.size:Int))=true:=decide_eq_true (by omega);have HV:Hid (CX ⟨ky,tx,g⟩=false):=Aa (by
    unfold CX;rw [show decide (tx.size<=40)=false from decide_eq_false (by omega),Bool.and_false];rfl)
   clear hk ht;go_enter Tryz.func90,Tryz.ntmps90
   go_wp2_with fail
   go_ret;exact⟨by rw [HV.out];rfl,HB.out⟩
  ·have t2:decide ((40:Int)<(tx.size:Int))=false:=decide_eq_false (by omega);have hR:Hid (CX ⟨ky,tx,g⟩=(!g|| (tx.toList==[]))):=Aa (by
    unfold CX;rw [E4.out,show decide (ky.size<=16)=true from decide_eq_true (by omega),show decide (tx.size<=40)=true from decide_eq_true (by omega)];rfl)
   clear hk ht;cases g with
   | false=>
     go_enter Tryz.func90,Tryz.ntmps90
     go_wp2_with fail
     go_ret;exact⟨by rw [hR.out];rfl,HB.out⟩
   | true=>
     have hie:∀l:List UInt8,(l==[])=l.isEmpty:=fun l=>by cases l<;>rfl
     rw [hie]at hR;go_enter Tryz.func90,Tryz.ntmps90
     go_wp2_with fail
     go_ret;exact⟨by rw [hR.out];rfl,HB.out⟩
theorem Xl(l:List Wr):∀u∈EE l,u.oneCell'=true:=by
 intro u hu;simp only [EE,List.mem_flatten,List.mem_map]at hu;obtain⟨_,⟨x,_,rfl⟩,hu⟩:=hu;simp only [yU,List.mem_cons,List.not_mem_nil,or_false]at hu;rcases hu with rfl| rfl| rfl<;>rfl
theorem Xm(a b:List Wr):EE (a++b)=EE a++EE b:=by simp [EE]
theorem uq{w:World}{base g k:Nat}{e:TypeId}(hg:BH w g e [])(hb:base<=g):w.ownsRow base e k (.slice (some ⟨g,0,none⟩) 0 0) 0 []:=by
 refine⟨by simp,.inr ⟨g,0,#[],rfl,hb,hg,Ad _,by decide,by simp,by simp⟩⟩
theorem ik{w:World}{G:Nat->Prop}{base n:Nat}{v:Value}{s:List Wr}(h:w.ownsRow base 87 3 v n (EE s))(hn:s.length=n)(hG:∀b,base<=b->b<w.heap.size->¬G b):Hf w G v s:=by
 subst hn;obtain⟨A,c,rfl,hc,hr⟩:=GL h;refine⟨A,c,rfl,hc,hr,fun hn a ea=> ?_⟩;subst ea;rcases h.2 with⟨h1,_⟩| ⟨g',cap,cur,h1,h2,h3,_⟩
 ·simp only [Value.slice.injEq]at h1;exact absurd h1.1 (by simp)
 ·simp only [Value.slice.injEq,Option.some.injEq]at h1;rw [h1.1];exact hG _ h2 (Array.getElem?_eq_some_iff.1 h3).1
theorem NW{w:World}{G:Nat->Prop}{v:Value}{s:List Wr}(h:Hf w G v s)(hs:s.length<=100000):
 Calls Tryz.prog 46 #[v] w fun e w'=>∃u,e= .returned u/\w'.ownsRow w.heap.size 87 3 u s.length (EE s)/\Below w.heap.size w w':=by
 obtain⟨A,c,rfl,hc,hr,hG⟩:=h;have q1:=fun W=>Lib.run_eql_slice_nil (P:=Tryz.prog) W 45 87 A s.length c 0 0 Tryz.underlying45
 cases A with
 | none=>
   have hs0:s=[]:=by
    by_cases e:s=[]
    ·exact e
    ·obtain⟨b,off,e2,_⟩:=hr.2 (by have:=List.length_pos_iff.2 e;omega);cases e2
   subst hs0;simp only [D8]at q1;clear hr hG;go_enter Tryz.func46,Tryz.ntmps46
   go_wp2_with fail
   go_ret;exact⟨_,rfl,⟨by simp [EE],.inl ⟨rfl,rfl⟩⟩,Below.refl _ _⟩
 | some a=>
   have HR:=Aa hr;have HC:=Aa hs;have hb0:Below w.heap.size w (w.alloc (.cells #[] 87)):=(Below.refl _ _).alloc (Ad _) _;have HB0:=Aa hb0;have HO:Hid ((w.alloc (.cells #[] 87)).ownsRow w.heap.size 87 3 (.slice (some ⟨w.heap.size,0,none⟩) 0 0) 0 []):=Aa (uq (heap_alloc_new _ _) (Ad _));clear hb0 hr hG hs;go_enter Tryz.func46,Tryz.ntmps46
   go_wp2_with(at_builtin;refine KX rfl (.tmp 5) (.tmp 6) 45 rfl Tryz.ig (by decide) w.heap.size (.slice (some ⟨w.heap.size,0,none⟩) 0 0) 0 [] rfl HO.out (some a) s.length c (EE s) rfl (Rd.below HR.out HB0.out) (Xl s) (by have:=HC.out;omega) (by decide) (by simp) ?_;intro v' w' hO hB hK)
   go_ret;exact⟨_,rfl,by simpa using hO,HB0.out.trans hB⟩
theorem ny (A B : Option Addr) (n m c d : Nat) (a b : List UInt8) (w : World) (hn : n <= 4294967296) (_hm : m <= 4294967296) (ha : Bs w A n a) (hb : Bs w B m b) :
    Calls Tryz.prog 175 #[.slice A n c, .slice B m d] w fun e w' => e = .returned (.bool (decide (a = b))) /\ Dr w w' := by
  have hla := ha.len
  have hlb := hb.len
  by_cases hnm : n = m
  · subst hnm
    have t1 : ((n : Int) != (n : Int)) = false := by simp
    go_enter Tryz.func175, Tryz.ntmps175
    go_wp2
    go_loopw [13] (fun i wr => ∃ k : Nat, k <= n /\ i = .int .i64 k /\ (∀ j (h1 : j < a.length) (h2 : j < b.length), j < k -> a[j] = b[j]) /\ Dr w wr) (fun i _ => n - (intOf i).toNat)
    case atStart => exact ⟨0, BA _, rfl, fun j _ _ h => absurd h (by omega), Dr.refl _⟩
    case round =>
      obtain ⟨k, hk, rfl, heq, q, rfl⟩ := hrel
      by_cases hlt : k < n
      · obtain ⟨hq, p, off, rfl, hp, hc⟩ := ha.at hlt
        obtain ⟨hq2, p2, Aa9, rfl, hp2, hc2⟩ := hb.at hlt
        by_cases he : a[k] = b[k]
        · have t2 : (((a[k].toNat : Int)) != (b[k].toNat : Int)) = false := by simp [he]
          have HE : Hid (∀ j (h1 : j < a.length) (h2 : j < b.length), j < k + 1 -> a[j] = b[j]) := Aa fun j h1 h2 hj => by
            by_cases e : j = k
            · subst e; exact he
            · exact heq j h1 h2 (by omega)
          clear heq he
          go_wp2
          go_quiet (fail)
          go_wp2
          go_roundw
          case rel => exact ⟨k + 1, by omega, by go_num, HE.out, by first | exact Dr.one _ _ | exact Dr.two _ _ _⟩
          case measure => simp [intOf]; omega
        · have t2 : (((a[k].toNat : Int)) != (b[k].toNat : Int)) = true := by
            rw [bne_iff_ne]; intro e; exact he (UInt8.toNat_inj.1 (by omega))
          have HD : Hid (decide (a = b) = false) := Aa (by rw [decide_eq_false_iff_not]; intro e; subst e; exact he rfl)
          clear heq he
          go_wp2
          go_quiet (fail)
          go_wp2
          go_ret
          exact ⟨by rw [HD.out]; rfl, by first | exact Dr.one _ _ | exact Dr.two _ _ _⟩
      · have hkn : k = n := by omega
        subst hkn
        have HD : Hid (decide (a = b) = true) := Aa (by
          rw [decide_eq_true_iff]
          apply DX (by omega)
          intro j h1 h2
          exact heq j h1 h2 (by omega))
        clear heq
        go_wp2
        go_ret
        exact ⟨by rw [HD.out]; rfl, Dr.one _ _⟩
  · have t1 : ((n : Int) != (m : Int)) = true := by simp; omega
    have HD : Hid (decide (a = b) = false) := Aa (by rw [decide_eq_false_iff_not]; intro e; subst e; omega)
    go_enter Tryz.func175, Tryz.ntmps175
    go_wp2
    go_ret
    exact ⟨by rw [HD.out]; rfl, Dr.refl _⟩
theorem qp(w:World)(o:Obj)(xs:List Value)(t:TypeId):BH ((w.alloc o).alloc (.cells xs.toArray t)) (w.heap.size+1) t xs:=by
 have:=heap_alloc_new (w.alloc o) (.cells xs.toArray t);rw [show(w.alloc o).heap.size=w.heap.size+1 by simp]at this;exact this
theorem UM.below{w w':World}{base:Nat}{v:Value}{x:Nd}(h:UM w base v x)(k:Below w.heap.size w w'):UM w' base v x:=by
 obtain⟨A1,c1,A2,c2,A3,c3,e,h1,h2,h3⟩:=h;exact⟨A1,c1,A2,c2,A3,c3,e,own_below h1 k,own_below h2 k,own_below h3 k⟩
theorem PlV.len{w:World}{base:Nat}{cs:List Value}{p:Pl}(h:PlV w base cs p):cs.length=7:=by
 obtain⟨a,b,c,d,rfl,_⟩:=h;rfl
theorem Ui.get{w:World}{base:Nat}:∀(vs:List (List Value))(ps:List Pl),Ui w base vs ps->∀i(h:i<ps.length),∃cs,PlV w base cs ps[i]/\∀j,j<7->vs.flatten[7*i+j]? =cs[j]?
 | [],[],_,i,hi=>by simp at hi
 | [],_::_,h,_,_=>h.elim
 | _::_,[],h,_,_=>h.elim
 | c::vs,p::ps,h,0,hi=>⟨c,h.1,fun j hj=>by
    have:=h.1.len;rw [Jw,CE (by omega)];simp⟩
 | c::vs,p::ps,h,i+1,hi=>by
    obtain⟨cs,h1,h2⟩:=Ui.get vs ps h.2 i (by simpa using hi);refine⟨cs,by simpa using h1,fun j hj=> ?_⟩;have:=h.1.len;rw [Jw,BX (by omega),<-h2 j hj];congr 1;omega
structure qw(w:World)(base:Nat)(g i:Nat)(pl:Pl)(a b c d:Value):Prop where
 cells:∀j u,[a,b,c,d,.int .i64 pl.off,.int .u8 (pl.label.toNat:Int),.int .i64 pl.word][j]? =some u->w.cell? ⟨g,7*i+j,none⟩=some u
 nd:UM w base (.agg #[a,b,c,d]) pl.nd
theorem MH.at{w:World}{base:Nat}{v:Value}{way:List Pl}(h:MH w base v way)(h0:way≠[]):∃g c,v= .slice (some ⟨g,0,none⟩) way.length c/\way.length<=c/\base<=g/\g<w.heap.size/\
 ∀i(hi:i<way.length),∃a b c' d,qw w base g i way[i] a b c' d:=by
 obtain⟨vs,ho,hp⟩:=h;rcases ho.2 with⟨_,h2⟩| ⟨g,cap,cur,h1,h2,h3,h4,h5,h6,h7⟩
 ·exact absurd (List.length_eq_zero_iff.1 h2) h0
 ·refine⟨g,cap,h1,h4,h2,(Array.getElem?_eq_some_iff.1 h3).1,fun i hi=> ?_⟩;obtain⟨cs,⟨a,b,c,d,rfl,hn⟩,hc⟩:=Ui.get vs way hp i hi;refine⟨a,b,c,d,⟨fun j u hj=> ?_,hn⟩⟩;have hj7:j<7:=by have:=(List.getElem?_eq_some_iff.1 hj).1;simpa using this
  rw [cell_of_row w g _ cur _ (0,0) h3,<-hj,<-hc j hj7,<-h7,CG,if_pos (by omega)];simp
def Ae7:Value:= .agg #[.slice none 0 0,.int .u64 0,.slice none 0 0,.slice none 0 0,.int .i64 0,.int .u8 0,.int .i64 0]
theorem Aij{w:World}{g:Nat}{e:TypeId}{a b c d k l m:Value}(h:BH w g e [a,b,c,d,k,l,m]):w.frozen? ⟨g,0,none⟩=false/\w.frozen? ⟨g,1,none⟩=false/\w.frozen? ⟨g,2,none⟩=false/\w.frozen? ⟨g,3,none⟩=false/\w.frozen? ⟨g,4,none⟩=false/\w.frozen? ⟨g,5,none⟩=false/\w.frozen? ⟨g,6,none⟩=false:=
 ⟨h.frozen 0,h.frozen 1,h.frozen 2,h.frozen 3,h.frozen 4,h.frozen 5,h.frozen 6⟩
theorem Uj{Q:Ending->World->Prop}{W:World}{tmps:Array Value}{fn:Func}(hr:fn.results= #[.cell 4 227,.tmp 5])(g:Nat){a b c d k l m:Value}(h:BH W g 227 [a,b,c,d,k,l,m])(v:Value)(h2:tmps[4]? =some (.pointer (some ⟨g,0,none⟩)))(h3:tmps[5]? =some v)
 (hq:Q (.returned (.tuple #[.agg #[a,b,c,d,k,l,m],v])) W):bodyPost Tryz.prog fn Q Exit.ret {tmps:=tmps,defers:=[]} W:=by
 obtain⟨y0,y1,y2,y3,y4,y5,y6⟩:=DU h;have hu:=run_underlying (P:=Tryz.prog) Tryz.underlying227;refine bodyPost_ret (v:= .tuple #[.agg #[a,b,c,d,k,l,m],v]) (by simp [results,hr,go_sem,h2,h3,y0,y1,y2,y3,y4,y5,y6]) rfl hq
theorem Aik{w W:World}{base g:Nat}{e:TypeId}{a0 a1 a2 a3 a4 a5 a6:Value}(h:BH W g e [a0,a1,a2,a3,a4,a5,a6])(hb:Below base w W)(hg:base<=g)(b0 b1 b2 b3 b4 b5 b6:Value):
 ∃W',W'=(((((((W.setCell ⟨g,0,none⟩ b0).setCell ⟨g,1,none⟩ b1).setCell ⟨g,2,none⟩ b2).setCell ⟨g,3,none⟩ b3).setCell ⟨g,4,none⟩ b4).setCell ⟨g,5,none⟩ b5).setCell ⟨g,6,none⟩ b6)/\BH W' g e [b0,b1,b2,b3,b4,b5,b6]/\
 Below base w W'/\
 Kept W W' (some g):=
 ⟨_,rfl,((((((h.AV 0 b0).AV 1 b1).AV 2 b2).AV 3 b3).AV 4 b4).AV 5 b5).AV 6 b6,
   ((((((hb.setCell (p:=⟨g,0,none⟩) hg b0).setCell (p:=⟨g,1,none⟩) hg b1).setCell (p:=⟨g,2,none⟩) hg b2).setCell (p:=⟨g,3,none⟩) hg b3).setCell (p:=⟨g,4,none⟩) hg b4).setCell (p:=⟨g,5,none⟩) hg b5).setCell (p:=⟨g,6,none⟩) hg b6,
   ((((((Kept.AV W g 0 b0).trans' (Kept.AV _ g 1 b1)).trans' (Kept.AV _ g 2 b2)).trans' (Kept.AV _ g 3 b3)).trans' (Kept.AV _ g 4 b4)).trans' (Kept.AV _ g 5 b5)).trans' (Kept.AV _ g 6 b6)⟩
def nz(way:List Pl)(rest:List UInt8)(base:Nat)(w:World)(e:Ending)(w':World):Prop:=
 Below w.heap.size w w'/\match CB way rest with
  | none=>e= .returned (.tuple #[Ae7,.bool false])
  | some last=>∃a b c d,e= .returned (.tuple #[.agg #[a,b,c,d,.int .i64 last.off,.int .u8 (last.label.toNat:Int),.int .i64 last.word],.bool true])/\UM w' base (.agg #[a,b,c,d]) last.nd
theorem FU{w:World}{base c:Nat}{vw:Value}{way:List Pl}{A:Option Addr}{rest:List UInt8}(hW:MH w base vw way)(hl:way.length<=1000000)(hp:∀pl∈way,pl.nd.pre.length<=1000)(hR:Bs w A rest.length rest)(hr:rest.length<=1000000):
 Calls Tryz.prog 136 #[vw,.slice A rest.length c] w (nz way rest base w):=by
 have B0:BH (w.alloc (.cells #[.slice none 0 0,.int .u64 0,.slice none 0 0,.slice none 0 0,.int .i64 0,.int .u8 0,.int .i64 0] 227)) w.heap.size 227 [.slice none 0 0,.int .u64 0,.slice none 0 0,.slice none 0 0,.int .i64 0,.int .u8 0,.int .i64 0]:=heap_alloc_new _ _;have hb0:Below w.heap.size w (w.alloc (.cells #[.slice none 0 0,.int .u64 0,.slice none 0 0,.slice none 0 0,.int .i64 0,.int .u8 0,.int .i64 0] 227)):=(Below.refl _ _).alloc (Ad _) _;by_cases h0:way=[]
 ·subst h0;obtain⟨Av,cv,hvw⟩:∃Av cv,vw= .slice Av 0 cv:=by
   obtain⟨vs,ho,_⟩:=hW;rcases ho.2 with⟨h1,_⟩| ⟨g,cap,cur,h1,_⟩
   ·exact⟨_,_,h1⟩
   ·exact⟨_,_,h1⟩
  subst hvw;have HV:Hid (CB [] rest=none):=Aa rfl;clear hW hR hl;obtain⟨f0,f1,f2,f3,f4,f5,f6⟩:=Aij B0;obtain⟨y0,y1,y2,y3,y4,y5,y6⟩:=DU B0;go_enter Tryz.func136,Tryz.ntmps136
  go_wp2_with fail
  refine Uj rfl w.heap.size B0 (.bool false) rfl rfl ⟨hb0,?_⟩;rw [HV.out];rfl
 ·obtain⟨g,cv,rfl,hcv,hbg,hgw,hat⟩:=hW.at h0;have hn0:0<way.length:=List.length_pos_iff.2 h0;obtain⟨a,b,c',d',hwc⟩:=hat (way.length-1) (by omega);have hlast:way.getLast? =some (way[way.length-1]'(by omega)):=by rw [List.getLast?_eq_getElem?,Af (by omega)]
  have Xn:=Aa (hp (way[way.length-1]'(by omega)) (BD _));generalize way[way.length-1]'(by omega)=last at*;have Qx:Hid (CB way rest=if last.nd.pre=rest then some last else none):=Aa (by rw [CB,hlast]);have t0:((way.length:Int)==0)=false:=by rw [beq_eq_false_iff_ne];omega
  obtain⟨m,hm⟩:∃m,m=way.length-1:=⟨_,rfl⟩;have hw1:IntKind.i64.wrap ((way.length:Int) -1)=(m:Int):=(wrap64 _ (by omega) (by omega)).trans (by omega);have hx1:decide ((m:Int)<(way.length:Int))=true:=decide_eq_true (by omega);have hx2:m<way.length:=by omega
  have hx3:(m:Int)<(way.length:Int):=by omega
  obtain⟨A1,p1,A2,p2,A3,p3,e,o1,o2,o3⟩:=hwc.nd;simp only [Value.agg.injEq]at e;simp at e;obtain⟨rfl,rfl,rfl,rfl⟩:=e;have HC:Hid (∀j v,[Value.slice A1 last.nd.pre.length p1,.int .u64 (last.nd.val.toNat:Int),.slice A2 last.nd.labels.length p2,.slice A3 last.nd.kids.length p3,.int .i64 last.off,.int .u8 (last.label.toNat:Int),.int .i64 last.word][j]? =some v->w.cell? ⟨g,7*m+j,none⟩=some v):=Aa (by rw [hm];exact hwc.cells);have HN:=Aa hwc.nd;have hz:∀j v,[Value.slice A1 last.nd.pre.length p1,.int .u64 (last.nd.val.toNat:Int),.slice A2 last.nd.labels.length p2,.slice A3 last.nd.kids.length p3,.int .i64 last.off,.int .u8 (last.label.toNat:Int),.int .i64 last.word][j]? =some v->(w.alloc (.cells #[.slice none 0 0,.int .u64 0,.slice none 0 0,.slice none 0 0,.int .i64 0,.int .u8 0,.int .i64 0] 227)).cell? ⟨g,m*7+j,none⟩=some v:=fun j v hj=>by
   rw [hb0.cell (p:=⟨g,m*7+j,none⟩) hgw,EC];exact HC.out j v hj
  have z0:=hz 0 _ rfl;have z1:=hz 1 _ rfl;have z2:=hz 2 _ rfl;have z3:=hz 3 _ rfl;have z4:=hz 4 _ rfl;have z5:=hz 5 _ rfl;have z6:=hz 6 _ rfl;rw [Nat.add_zero]at z0;have HB0:=Aa B0;have Hb0:=Aa hb0;have HR:=Aa hR;clear hat hlast hW hwc o1 o2 o3 hm B0 hz HC hR hb0;go_enter Tryz.func136,Tryz.ntmps136
  go_wp2_with fail
  have B1:=HB0.out.below ((Below.refl _ _).alloc (Ad _) (.cells #[Value.slice A1 last.nd.pre.length p1,.int .u64 (last.nd.val.toNat:Int),.slice A2 last.nd.labels.length p2,.slice A3 last.nd.kids.length p3,.int .i64 last.off,.int .u8 (last.label.toNat:Int),.int .i64 last.word] 227)) HB0.out.lt;have B2:BH ((w.alloc (.cells #[.slice none 0 0,.int .u64 0,.slice none 0 0,.slice none 0 0,.int .i64 0,.int .u8 0,.int .i64 0] 227)).alloc (.cells #[Value.slice A1 last.nd.pre.length p1,.int .u64 (last.nd.val.toNat:Int),.slice A2 last.nd.labels.length p2,.slice A3 last.nd.kids.length p3,.int .i64 last.off,.int .u8 (last.label.toNat:Int),.int .i64 last.word] 227)) (w.heap.size+1) 227 [Value.slice A1 last.nd.pre.length p1,.int .u64 (last.nd.val.toNat:Int),.slice A2 last.nd.labels.length p2,.slice A3 last.nd.kids.length p3,.int .i64 last.off,.int .u8 (last.label.toNat:Int),.int .i64 last.word]:=qp _ _ _ _;have hb2:=Hb0.out.alloc Hb0.out.size (.cells #[Value.slice A1 last.nd.pre.length p1,.int .u64 (last.nd.val.toNat:Int),.slice A2 last.nd.labels.length p2,.slice A3 last.nd.kids.length p3,.int .i64 last.off,.int .u8 (last.label.toNat:Int),.int .i64 last.word] 227);clear z0 z1 z2 z3 z4 z5 z6;generalize((w.alloc (.cells #[.slice none 0 0,.int .u64 0,.slice none 0 0,.slice none 0 0,.int .i64 0,.int .u8 0,.int .i64 0] 227)).alloc (.cells #[Value.slice A1 last.nd.pre.length p1,.int .u64 (last.nd.val.toNat:Int),.slice A2 last.nd.labels.length p2,.slice A3 last.nd.kids.length p3,.int .i64 last.off,.int .u8 (last.label.toNat:Int),.int .i64 last.word] 227))=W2 at*;obtain⟨A1',p1',A2',p2',A3',p3',e,o1,o2,o3⟩:=HN.out;simp only [Value.agg.injEq]at e;simp at e;obtain⟨⟨rfl,rfl⟩,⟨rfl,rfl⟩,⟨rfl,rfl⟩⟩:=e;refine(ny A1 A last.nd.pre.length rest.length p1 c last.nd.pre rest W2 (by have:=Xn.out;omega) (by omega) (BK (own_below o1 hb2)).2 (HR.out.below hb2)).mono ?_;clear o1 o2 o3;rintro e w3⟨rfl,hd3⟩;have hb3:=hb2.trans ((hd3.below W2.heap.size).mono hb2.size);replace B1:=B1.below (hd3.below _) B1.lt;replace B2:=B2.below (hd3.below _) B2.lt;clear hb2 hd3 HR;obtain⟨f0,f1,f2,f3,f4,f5,f6⟩:=Aij B1;obtain⟨y0,y1,y2,y3,y4,y5,y6⟩:=DU B1;obtain⟨z0,z1,z2,z3,z4,z5,z6⟩:=DU B2;have hg1:w.heap.size≠w.heap.size+1:=by omega
  by_cases he:last.nd.pre=rest
  ·have HV:Hid (CB way rest=some last):=Aa (by rw [Qx.out,if_pos he]);have hd:decide (last.nd.pre=rest)=true:=decide_eq_true he;rw [hd];clear Qx hd he;have HB:=Aa B1;have Hb:=Aa hb3;clear B1 B2 hb3 HB0 Hb0
   go_wp2_with fail
   obtain⟨W9,TQ,BF,J6, -⟩:=Aik HB.out Hb.out (Ad _) (Value.slice A1 last.nd.pre.length p1) (.int .u64 (last.nd.val.toNat:Int)) (.slice A2 last.nd.labels.length p2) (.slice A3 last.nd.kids.length p3) (.int .i64 last.off) (.int .u8 (last.label.toNat:Int)) (.int .i64 last.word);rw [<-TQ];refine Uj rfl w.heap.size BF (.bool true) rfl rfl ⟨J6,?_⟩;rw [HV.out];exact⟨_,_,_,_,rfl,HN.out.below J6⟩
  ·have HV:Hid (CB way rest=none):=Aa (by rw [Qx.out,if_neg he]);have hd:decide (last.nd.pre=rest)=false:=decide_eq_false he;rw [hd];clear Qx hd he;have HB:=Aa B1;have Hb:=Aa hb3;clear B1 B2 hb3 HB0 Hb0 z0 z1 z2 z3 z4 z5 z6
   go_wp2_with fail
   obtain⟨W9,TQ,BF,J6, -⟩:=Aik HB.out Hb.out (Ad _) (.slice none 0 0) (.int .u64 0) (.slice none 0 0) (.slice none 0 0) (.int .i64 0) (.int .u8 0) (.int .i64 0);rw [<-TQ];refine Uj rfl w.heap.size BF (.bool false) rfl rfl ⟨J6,?_⟩;rw [HV.out];rfl
def CW(w w':World):Prop:=w.heap.size<=w'.heap.size/\∀(g:Nat)(cs:Array Value)(e:TypeId)(fz:Nat×Nat),(e=5\/e=23\/e=225)->w.heap[g]? =some (Obj.cells cs e fz)->w'.heap[g]? =w.heap[g]?
theorem CW.refl(w:World):CW w w:=⟨Ad _,fun _ _ _ _ _ _=>rfl⟩
theorem CW.of_below{w w':World}(h:Below w.heap.size w w'):CW w w':=⟨h.size,fun g _ _ _ _ hg=>h.block g (Array.getElem?_eq_some_iff.1 hg).1⟩
theorem CW.trans{a b c:World}(h:CW a b)(k:CW b c):CW a c:=
 ⟨AL h.1 k.1,fun g cs e fz he hg=>by
  have h1:=h.2 g cs e fz he hg;exact(k.2 g cs e fz he (h1.trans hg)).trans h1⟩
theorem CW.Acd{w w':World}{g:Nat}(h:Kept w w' (some g))(hg:∀(cs:Array Value)(e:TypeId)(fz:Nat×Nat),(e=5\/e=23\/e=225)->w.heap[g]?≠some (Obj.cells cs e fz)):CW w w':=
 ⟨h.1,fun g' cs e fz he hg'=>h.2 g' (Array.getElem?_eq_some_iff.1 hg').1 (fun e'=>by injection e' with e';subst e';exact hg cs e fz he hg')⟩
theorem CW.own{w w':World}{base k n:Nat}{e:TypeId}{v:Value}{xs:List Value}(h:CW w w')(he:e=5\/e=23\/e=225)(ho:w.ownsRow base e k v n xs):w'.ownsRow base e k v n xs:=by
 refine⟨ho.1,?_⟩;rcases ho.2 with h1| ⟨g,cap,cur,h1,h2,h3,h4⟩
 ·exact .inl h1
 ·exact .inr ⟨g,cap,cur,h1,h2,(h.2 g _ _ _ he h3).trans h3,h4⟩
theorem CW.nd{w w':World}{base:Nat}{v:Value}{x:Nd}(s:CW w w')(h:UM w base v x):UM w' base v x:=by
 obtain⟨A1,c1,A2,c2,A3,c3,e,h1,h2,h3⟩:=h;exact⟨A1,c1,A2,c2,A3,c3,e,s.own (.inl rfl) h1,s.own (.inl rfl) h2,s.own (.inr (.inl rfl)) h3⟩
theorem CW.box{w w':World}{g:Nat}{xs:List Value}(s:CW w w')(h:BH w g 225 xs):BH w' g 225 xs:=(s.2 g _ _ _ (.inr (.inr rfl)) h).trans h
def JP(w:World)(A:Option Addr)(l:List UInt8):Prop:=
 Bs w A l.length l/\(∀a,A=some a->∃(g:Nat)(cs:Array Value)(fz:Nat×Nat),a=⟨g,0,none⟩/\w.heap[g]? =some (Obj.cells cs 5 fz))/\(A=none->l=[])
theorem JP.nil(w:World):JP w none []:=by
 refine⟨Rd.nil,?_,fun _=>rfl⟩;intro a e;cases e
theorem JP.keep{w w':World}{A:Option Addr}{l:List UInt8}(h:JP w A l)(s:CW w w'):JP w' A l:=by
 obtain⟨h1,h2,h3⟩:=h;refine⟨⟨h1.1,fun hn=> ?_⟩,fun a e=> ?_,h3⟩
 ·obtain⟨b,off,e,hb,hc⟩:=h1.2 hn;obtain⟨g,cs,fz,e2,hg⟩:=h2 _ e;injection e2 with e3 e4
  subst e3 e4;exact⟨_,_,e,Bg hb s.1,fun j hj=>(World.cell?_of_block (w:=w) (s.2 _ _ _ _ (.inl rfl) hg)).trans (hc j hj)⟩
 ·obtain⟨g,cs,fz,e2,hg⟩:=h2 a e;exact⟨g,cs,fz,e2,(s.2 _ _ _ _ (.inl rfl) hg).trans hg⟩
theorem JP.cut{w w':World}{A A':Option Addr}{l m:List UInt8}(h:JP w A l)(hr:Rd w' A' (l.length+m.length) (l.map bv++m.map bv))(hb:Below w.heap.size w w')(hc:pW w w' 5 A A' m.length):JP w' A' (l++m):=by
 refine⟨?_,fun a e=> ?_,fun e=> ?_⟩
 ·rw [Az];show Rd w' A' _ ((l++m).map bv);rw [DR];exact hr
 ·rcases hc with⟨rfl,_⟩| ⟨g,cs,e1,_,e3⟩
  ·obtain⟨g,cs,fz,e2,hg⟩:=h.2.1 a e;exact⟨g,cs,fz,e2,(hb.block _ (Array.getElem?_eq_some_iff.1 hg).1).trans hg⟩
  ·rw [e1]at e;injection e with e
   exact⟨g,cs,_,e.symm,e3⟩
 ·rcases hc with⟨rfl,e2⟩| ⟨g,cs,e1,_⟩
  ·rw [h.2.2 e,Bj e2];rfl
  ·rw [e1]at e;exact nomatch e
def itV(p:List UInt8×UInt64):List Value:=[.string ⟨p.1.toArray⟩,.int .u64 (p.2.toNat:Int)]
structure DJ(w:World)(base sb mb x:Nat)(items:List (List UInt8×UInt64))(met:List Int)(v:Value):Prop where
 box:BH w sb 144 [.pointer (some ⟨x,0,none⟩),v,.map (some mb)]
 row:w.ownsRow base 126 2 v items.length (items.map itV).flatten
 map:Jm w mb (met.map fun o=>(o,1))
 bs:base<=sb
 bm:base<=mb
 vs:v.ownBlock≠some sb
 nC:met.Nodup
 rng:∀o∈met,0<=o/\o<=65536
 len:items.length<=met.length
theorem NY:∀(N:Nat)(l:List Int),l.Nodup->(∀o∈l,0<=o/\o<(N:Int))->l.length<=N
 | 0,l,_,h=>by
   cases l with
   | nil=>simp
   | cons a t=>have:=h a (Be ..);omega
 | N+1,l,hn,h=>by
   by_cases hm:(N:Int)∈l
   ·have h1:=NY N (l.erase (N:Int)) (hn.erase _) (fun o ho=>by
    have:=(hn.mem_erase_iff).1 ho;have:=h o this.2;omega)
    rw [List.length_erase_of_mem hm]at h1;omega
   ·have:=NY N l hn (fun o ho=>by
    have h2:=h o ho;have:o≠(N:Int):=fun e=>hm (e▸ho)
    omega)
    omega
section
variable{w w':World}{base sb mb x:Nat}{items:List (List UInt8×UInt64)}{met:List Int}{v:Value}
theorem DJ.few(h:DJ w base sb mb x items met v):items.length<=65537:=
 AL h.len (NY 65537 met h.nC (fun o ho=>by have:=h.rng o ho;omega))
theorem DJ.sm(h:DJ w base sb mb x items met v):sb≠mb:=by
 intro e;have h1:=h.box;have h2:=h.map;unfold BH at h1;unfold Jm at h2;rw [e,h2]at h1;injection h1 with h1
 cases h1
theorem DJ.vm(h:DJ w base sb mb x items met v):v.ownBlock≠some mb:=by
 intro e;rcases h.row.2 with⟨h1,_⟩| ⟨g,cap,cur,h1,_,h3,_⟩
 ·subst h1;exact nomatch e
 ·subst h1;simp only [Value.ownBlock,Option.some.injEq]at e;subst e;have h2:=h.map;unfold Jm at h2;rw [h2]at h3;injection h3 with h3
  cases h3
theorem DJ.below(h:DJ w base sb mb x items met v)(k:Below w.heap.size w w'):DJ w' base sb mb x items met v:=
 ⟨h.box.below k h.box.lt,Ed h.row (Kept.of_below (r:=some sb) k) (.inl (fun e=>h.vs e.symm)),h.map.below k,h.bs,h.bm,h.vs,h.nC,h.rng,h.len⟩
theorem DJ.note(h:DJ w base sb mb x items met v){o:Int}(ho:0<=o/\o<=65536)(hn:o∉met):DJ (D9 w mb (Gi 0 ((met++[o]).map fun o=>(o,1))).toArray ((met++[o]).map fun o=>(o,(1:Int))).length) base sb mb x items (met++[o]) v/\
 CW w (D9 w mb (Gi 0 ((met++[o]).map fun o=>(o,1))).toArray ((met++[o]).map fun o=>(o,(1:Int))).length)/\Below base w (D9 w mb (Gi 0 ((met++[o]).map fun o=>(o,1))).toArray ((met++[o]).map fun o=>(o,(1:Int))).length):=by
 have hne:∀(cs:Array Value)(e:TypeId)(fz:Nat×Nat),w.heap[mb]?≠some (Obj.cells cs e fz):=fun cs e fz hg=>by
  have h2:=h.map;unfold Jm at h2;rw [h2]at hg;injection hg with hg
  cases hg
 have t:=Ia w mb (Gi 0 ((met++[o]).map fun o=>(o,1))).toArray ((met++[o]).map fun o=>(o,(1:Int))).length;refine⟨⟨h.box.touch t h.sm,Gf h.row t (fun g hg e=>h.vm (by rw [hg,e])),LJ _ _ _ _ h.map.lt,h.bs,h.bm,h.vs,?_,?_,?_⟩,⟨t.size,fun g cs e fz _ hg=>t.block g (Array.getElem?_eq_some_iff.1 hg).1 (fun e'=>hne cs e fz (e'▸hg))⟩,t.below (FB (Ej h.bm h.map.lt)) (fun k e=>e▸h.bm)⟩
 ·exact List.nodup_append.2 ⟨h.nC,List.nodup_cons.2 ⟨by simp,Np⟩,fun a ha b hb=>by rw [BM]at hb;subst hb;exact fun e=>hn (e▸ha)⟩
 ·intro a ha;rcases List.mem_append.1 ha with h1| h1
  ·exact h.rng a h1
  ·rw [BM]at h1;exact h1▸ho
 ·have:=h.len;simp;omega
theorem DJ.add(h:DJ w base sb mb x items met v)(p:List UInt8×UInt64)(hl:items.length<met.length){g6 c6:Nat}{w6:World}
 (hO:w6.ownsRow base 126 2 (.slice (some ⟨g6,0,none⟩) (items.length+1) c6) (items.length+1) ((items.map itV).flatten++itV p))(hB:Below base w w6)(hK:Kept w w6 v.ownBlock)(hg:v.ownBlock=some g6\/w.heap.size<=g6):
 DJ (w6.setCell ⟨sb,1,none⟩ (.slice (some ⟨g6,0,none⟩) (items.length+1) c6)) base sb mb x (items++[p]) met (.slice (some ⟨g6,0,none⟩) (items.length+1) c6)/\
  CW w (w6.setCell ⟨sb,1,none⟩ (.slice (some ⟨g6,0,none⟩) (items.length+1) c6))/\Below base w (w6.setCell ⟨sb,1,none⟩ (.slice (some ⟨g6,0,none⟩) (items.length+1) c6)):=by
 have hsl:=h.box.lt;have hml:=h.map.lt;have hgs:g6≠sb:=by
  rintro rfl;rcases hg with e| e
  ·exact h.vs e
  ·omega
 have B6:BH w6 sb 144 [.pointer (some ⟨x,0,none⟩),v,.map (some mb)]:=(hK.2 sb hsl (fun e=>h.vs e.symm)).trans h.box;have M6:w6.heap[mb]? =w.heap[mb]? :=hK.2 mb hml (fun e=>h.vm e.symm);have k9:=Kept.AV w6 sb 1 (.slice (some ⟨g6,0,none⟩) (items.length+1) c6);have s6:CW w w6:=by
  refine⟨hK.1,fun g cs e fz he hg'=>hK.2 g (Array.getElem?_eq_some_iff.1 hg').1 (fun e'=> ?_)⟩;rcases h.row.2 with⟨h1,_⟩| ⟨g',cap,cur,h1,_,h3,_⟩
  ·subst h1;exact nomatch e'
  ·subst h1;simp only [Value.ownBlock,Option.some.injEq]at e';subst e';rw [hg']at h3;injection h3 with h3
   injection h3 with _ h4
   rw [h4]at he;exact absurd he (by decide)
 have s9:CW w6 (w6.setCell ⟨sb,1,none⟩ (.slice (some ⟨g6,0,none⟩) (items.length+1) c6)):=CW.Acd k9 (fun cs e fz he hg'=>by
  have h3:w6.heap[sb]? =_:=B6;rw [hg']at h3;injection h3 with h3
  injection h3 with _ h4
  rw [h4]at he;exact absurd he (by decide))
 refine⟨⟨B6.AV 1 _,?_,?_,h.bs,h.bm,by simp [Value.ownBlock,hgs],h.nC,h.rng,by simp;omega⟩,s6.trans s9,hB.setCell (p:=⟨sb,1,none⟩) h.bs _⟩
 ·have:=Ed hO k9 (.inl (by simp [Value.ownBlock,Ne.symm hgs]));simpa using this
 ·show(w6.setCell _ _).heap[mb]? =_;rw [k9.2 mb (Bg hml hK.1) (fun e=>h.sm (Option.some.inj e).symm),M6];exact h.map
end
structure Kt(s:St)(l:List Lk):Prop where
 nC:(l.map (·.off)).Nodup
 at_:∀k∈l,0<=k.off/\k.off<=65536/\Dc s k.off=1/\LZ (wordsAt s.ws (k.off.toNat/8) 8)=some k.rc/\DZ l<=k.rc.stamp.toNat
theorem Kt.nil(s:St):Kt s []:=⟨Np,fun _ h=>nomatch h⟩
theorem Hw(l:List Lk)(k:Lk):DZ (l++[k])=k.rc.stamp.toNat:=by
 unfold DZ;rw [List.getLast?_append];rfl
theorem Kt.step{s:St}{l:List Lk}(h:Kt s l){off:Int}{r:Rc}(ho:0<=off/\off<=65536)(hc:Dc s off=1)(hd:LZ (wordsAt s.ws (off.toNat/8) 8)=some r)(hs:r.stamp.toNat<DZ l):Kt s (l++[⟨off,r⟩]):=by
 refine⟨?_,fun k hk=> ?_⟩
 ·rw [DR];refine List.nodup_append.2 ⟨h.nC,by simp,fun a ha b hb=> ?_⟩;rw [List.map_singleton,BM]at hb;subst hb;rintro rfl;obtain⟨k,hk,e⟩:=List.mem_map.1 ha;obtain⟨_,_,_,h3,h4⟩:=h.at_ k hk;rw [e,hd]at h3;injection h3 with h3
  rw [<-h3]at h4;omega
 ·rw [Hw];rcases List.mem_append.1 hk with hk| hk
  ·obtain⟨h1,h2,h3,h4,h5⟩:=h.at_ k hk;exact⟨h1,h2,h3,h4,by show r.stamp.toNat<=_;omega⟩
  ·rw [BM]at hk;subst hk;exact⟨ho.1,ho.2,hc,hd,Ad _⟩
theorem Kt.few{s:St}{l:List Lk}(h:Kt s l):l.length<=65537:=by
 have:=NY 65537 (l.map (·.off)) h.nC (fun o ho=>by
  obtain⟨k,hk,rfl⟩:=List.mem_map.1 ho;obtain⟨h1,h2,_⟩:=h.at_ k hk;omega)
 rwa [CO]at this
theorem uu{L:Nat}{s:St}{off:Int}(ok:Yq L s.sh)(hn:s.tk.length=s.sh.BQ)(hL:L<=1024)(h:Dc s off=1):0<=off/\off<=65536/\off=((8*(off.toNat/8):Nat):Int)/\off.toNat/8+8<=8*L:=by
 obtain⟨i,a,hi,ho,_,hfit⟩:=Td (s:=s) (off:=off) (by rw [h];decide);rw [h]at ho hfit;simp only [AQ]at ho hfit;have:=ok.data;have:=ok.fits;have:=ok.BQ;rw [hn]at hi;omega
theorem Tryz.Ace:IE Tryz.prog 59 3 (.int .i64 0) 1 8:=⟨Tryz.underlying59,by kernel_rfl,rfl⟩
section
variable{w w':World}{x d p L:Nat}{s:St}{F:Nat->Prop}
theorem PW(h:Ix w x d p L s F)(pl:Pl)(hp:ui L pl)(A1 A2 A3:Option Addr)(n1 c1 n2 c2 n3 c3:Nat)(n:UInt64):
 Calls Tryz.prog 139 #[.pointer (some ⟨x,0,none⟩),.agg #[.slice A1 n1 c1,.int .u64 (pl.nd.val.toNat:Int),.slice A2 n2 c2,.slice A3 n3 c3,.int .i64 pl.off,.int .u8 (pl.label.toNat:Int),.int .i64 pl.word],.int .u64 (n.toNat:Int)] w fun e w'=>
  e= .returned (.int .i64 0)/\∃F',Ix w' x d p L (Jl s pl n) F'/\Aq F F' w w':=by
 obtain⟨o,ho,hol⟩:=hp.off;obtain⟨l0,l1,ok,EU⟩:=h.L0;have hb0:Below w.heap.size w (w.alloc (.cells #[.slice A1 n1 c1,.int .u64 (pl.nd.val.toNat:Int),.slice A2 n2 c2,.slice A3 n3 c3,.int .i64 pl.off,.int .u8 (pl.label.toNat:Int),.int .i64 pl.word] 227)):=(Below.refl _ _).alloc (Ad _) _;have HP:=Aa (fun(W:World)(hW:Below w.heap.size w W)=>VB (h.below hW).sys (o+2) n (by omega));rw [show((8*(o+2):Nat):Int)=pl.off+16 by omega]at HP;have HX:=Aa h;have hval:Jl s pl n={s with ws:=FH s.ws (o+2) n}:=by unfold Jl;rw [ho,show((8*o:Nat):Int).toNat/8=o by omega]
 have HV:=Aa hval;have hw1:IntKind.i64.wrap (pl.off+16)=pl.off+16:=wrap64 _ (by omega) (by omega);have y0:=(hb0.cell (p:=⟨x,0,none⟩) h.box.lt).trans (h.box.cell 0);simp only [Ac]at y0;have B0:BH (w.alloc (.cells #[.slice A1 n1 c1,.int .u64 (pl.nd.val.toNat:Int),.slice A2 n2 c2,.slice A3 n3 c3,.int .i64 pl.off,.int .u8 (pl.label.toNat:Int),.int .i64 pl.word] 227)) w.heap.size 227 [.slice A1 n1 c1,.int .u64 (pl.nd.val.toNat:Int),.slice A2 n2 c2,.slice A3 n3 c3,.int .i64 pl.off,.int .u8 (pl.label.toNat:Int),.int .i64 pl.word]:=heap_alloc_new _ _;have y4:=(DU B0).2.2.2.2.1;have hoff:0<=pl.off/\pl.off<=65536:=by omega
 generalize pl.off=off at*;clear h hval hp ho hol ok EU B0;go_enter Tryz.func139,Tryz.ntmps139
 go_wp2_with fail
 generalize w.alloc (.cells #[.slice A1 n1 c1,.int .u64 (pl.nd.val.toNat:Int),.slice A2 n2 c2,.slice A3 n3 c3,.int .i64 off,.int .u8 (pl.label.toNat:Int),.int .i64 pl.word] 227)=W0 at*
 go_region_with(go_at_call 50;go_loud(refine(HP.out _ (hb0.trans ((Dr.drew _).below _))).mono ?_;rintro e w8⟨rfl,F',hs8,aW⟩))
 all_goals(go_wp2_with fail)
 all_goals(go_ret)
 all_goals(have hm:=(Aq.of_below (F:=F) (hb0.trans ((Dr.drew W0).below _))).trans aW)
 all_goals(exact⟨rfl,F',by rw [HV.out];exact HX.out.move hs8 hm,hm⟩)
end
def Gu(r:Jb×UInt64×Int)(base jb x d p L:Nat)(G:Nat->Prop)(w:World)(e:Ending)(w':World):Prop:=
 e= .returned (.tuple #[.int .u64 (r.2.1.toNat:Int),.int .i64 r.2.2])/\∃G',EW w' base jb x d p L r.1 G'/\Aq G G' w w'
section
variable{w w':World}{base jb x d p L:Nat}{j:Jb}{G:Nat->Prop}
theorem JQ(h:EW w base jb x d p L j G)(nd:Nd)(A1 A2 A3:Option Addr)(c1 c2 c3:Nat)(b1:nd.pre.length<=1000)(b2:nd.labels.length<=1000)(b3:nd.kids.length<=1000)
 (h1:Bs w A1 nd.pre.length nd.pre)(h2:Bs w A2 nd.labels.length nd.labels)(h3:Ws w A3 nd.kids.length nd.kids)(hm:j.made.length<=1000):
 Calls Tryz.prog 177 #[.pointer (some ⟨jb,0,none⟩),.agg #[.slice A1 nd.pre.length c1,.int .u64 (nd.val.toNat:Int),.slice A2 nd.labels.length c2,.slice A3 nd.kids.length c3]] w (Gu (D5 j nd) base jb x d p L G w):=by
 obtain⟨W,hW,e0,e1,e2,e3,hb,hs⟩:=xG w 225 (.slice A1 nd.pre.length c1) (.int .u64 (nd.val.toNat:Int)) (.slice A2 nd.labels.length c2) (.slice A3 nd.kids.length c3);have HW:=Aa hW;have HE:=Aa (PL A1 A2 A3 nd.pre.length c1 nd.labels.length c2 nd.kids.length c3 nd W (by omega) (by omega) (by omega) (h1.below hb) (h2.below hb) (h3.below hb));have HJ:=Aa h;have HB:=Aa hb;clear hW h hb h1 h2 h3;cases hR:BG nd with
 | false=>
   have HP:Hid (D5 j nd=(j,0,5)):=Aa (by unfold D5;rw [hR];rfl);go_enter Tryz.func177,Tryz.ntmps177
   go_wp2_with fail
   rw [<-HW.out];clear HW;refine HE.out.mono ?_;rintro e w1⟨hb1,hp1⟩;rw [hR]at hp1;replace hp1:e= .returned (.tuple #[.slice none 0 0,.bool false]):=hp1;subst hp1;have HB1:=Aa (HB.out.trans (hb1.mono HB.out.size));clear hb1 HE e0 e1 e2 e3
   go_wp2_with fail
   go_ret2;refine⟨by rw [HP.out];rfl,G,?_,Aq.of_below HB1.out⟩;rw [HP.out];exact HJ.out.below HB1.out
 | true=>
   obtain⟨F,v,hj,hG⟩:=HJ.out;obtain⟨l0,l1,ok,EU⟩:=hj.ix.L0;have hbj:=HB.out;have hjW:=hj.below HB.out;have ho:=Aa hR;have hcl:(if nd.kids.length<=4 then(1:Int)else 2)=((CU nd:Nat):Int):=by unfold CU;split<;>rfl
   have HC:=Aa (fun(W':World)(v1 v2 v3:Value)=>TZ v1 v2 v3 A3 nd.kids.length c3 W' (by omega));rw [hcl]at HC;have HRs:=Aa (fun(W':World)(hW:Below W.heap.size W W')=>Tc (hjW.below hW).ix.sys (CU nd) (by have:=Qw nd;omega) (by have:=Qw nd;omega));have HJW:=Aa hjW;have HG:=Aa hG;have y0:=hjW.box.cell 0;have y1:=hjW.box.cell 1;have u0:=hjW.ix.box.cell 0;have u1:=hjW.ix.box.cell 1;simp only [Ac,Ae]at y0 y1 u0 u1;have hjl:=hjW.box.lt;have hxl:=hjW.ix.box.lt;have hwl:w.heap.size<W.heap.size:=by omega
   have tN:=Aa ok;have HNt:=Aa EU;clear hj hG hjW hbj hcl ok EU hR;cases hres:CJ j.s (CU nd)with
   | none=>
     have HV:Hid (resV j.s (CU nd)= .tuple #[.int .i64 0,.int .i64 6]):=Aa (by unfold resV;rw [hres]);have HS:Hid (Rw j.s (CU nd)=j.s):=Aa (by unfold Rw;rw [hres]);have HP:Hid (D5 j nd=(j,0,6)):=Aa (by unfold D5;rw [ho.out,hres];rfl);rw [HV.out,HS.out]at HRs;clear HV HS hres;go_enter Tryz.func177,Tryz.ntmps177
     go_wp2_with fail
     rw [<-HW.out];clear HW;refine HE.out.mono ?_;rintro e w1⟨hb1,hp1⟩;rw [ho.out,if_pos rfl]at hp1;obtain⟨vr,rfl,hor⟩:=hp1;obtain⟨Ar,cr,rfl,hcr,hrr⟩:=BU hor;have HB1:=Aa hb1;replace y0:=(hb1.cell (p:=⟨jb,0,none⟩) hjl).trans y0;replace y1:=(hb1.cell (p:=⟨jb,1,none⟩) hjl).trans y1;replace u0:=(hb1.cell (p:=⟨x,0,none⟩) hxl).trans u0;replace u1:=(hb1.cell (p:=⟨x,1,none⟩) hxl).trans u1;replace e0:=(hb1.cell (p:=⟨w.heap.size,0,none⟩) hwl).trans e0;replace e1:=(hb1.cell (p:=⟨w.heap.size,1,none⟩) hwl).trans e1;replace e2:=(hb1.cell (p:=⟨w.heap.size,2,none⟩) hwl).trans e2;replace e3:=(hb1.cell (p:=⟨w.heap.size,3,none⟩) hwl).trans e3;have Acf:jb<w1.heap.size:=Bg hjl hb1.size;have Acg:x<w1.heap.size:=Bg hxl hb1.size;clear hb1 HE hor hrr
     go_wp2_with fail
     go_region_with(first
      | (go_at_call 195;go_loud(refine(HC.out _ _ _ _).mono ?_;rintro e w2⟨rfl,hb2⟩;have z0:=(hb2.cell (p:=⟨jb,0,none⟩) Acf).trans y0;have z1:=(hb2.cell (p:=⟨x,1,none⟩) Acg).trans u1;have hB2:=(HB1.out.trans (((Dr.drew w1).below W.heap.size))).trans (hb2.mono HB1.out.size)))
      | (go_at_call 34;go_loud(refine(HRs.out _ hB2).mono ?_;rintro e w3⟨rfl,hs3,hm3⟩)))
     all_goals(obtain⟨G',q1,q2,q3⟩:=(HJW.out.below hB2).move HG.out hs3 hm3)
     all_goals(have HF:Hid (∃G',EW w3 base jb x d p L j G'/\Aq G G' w w3):=Aa ⟨G',⟨F,v,q1,q2⟩,(Aq.of_below (HB.out.trans (hB2.mono HB.out.size))).trans q3⟩)
     all_goals(clear q1 q2 q3 hs3 hm3 hB2 z0 z1 hb2)
     all_goals(go_wp2_with fail)
     all_goals(go_ret2)
     all_goals(refine⟨by rw [HP.out];rfl,?_⟩)
     all_goals(rw [HP.out])
     all_goals(exact HF.out)
   | some os=>
     obtain⟨off,s1⟩:=os;obtain⟨o,ho8,hol⟩:=Xk tN.out HNt.out (Qw nd) hres;have HV:Hid (resV j.s (CU nd)= .tuple #[.int .i64 (off:Int),.int .i64 0]):=Aa (by unfold resV;rw [hres]);have HS:Hid (Rw j.s (CU nd)=s1):=Aa (by unfold Rw;rw [hres]);obtain⟨T,hT⟩:∃T,T=FX {s1 with ws:=CP s1.ws (off/8) (Du nd)} (off:Int):=⟨_,rfl⟩;have HP:Hid (D5 j nd=if T.2=0 then(⟨T.1,j.made++[(off:Int)]⟩,UInt64.ofNat off,0)else(⟨T.1,j.made++[(off:Int)]⟩,0,T.2)):=Aa (by unfold D5;rw [ho.out,hres,hT];rfl);rw [HV.out,HS.out]at HRs;have hoff:(off:Int)<=65536:=by omega
     have hlen:=mV nd;have HT:=Aa hT;have HO8:=Aa ho8;have HOl:=Aa hol;have HLen:=Aa hlen;have HEl:Hid (0<(Du nd).length):=Aa (by rw [hlen];rcases Qw nd with e| e<;>rw [e]<;>decide);have HU:Hid (((UInt64.ofNat off).toNat:Int)=(off:Int)):=Aa (by rw [UInt64.toNat_ofNat'];omega);have hwu:IntKind.u64.wrap (off:Int)=(off:Int):=by
      exact IntWalk.u64_in _ (by omega)
     have iq:=Aa HJ.out.lt;clear hlen hol hT ho8;clear HV HS hres;go_enter Tryz.func177,Tryz.ntmps177
     go_wp2_with fail
     rw [<-HW.out];clear HW;refine HE.out.mono ?_;rintro e w1⟨hb1,hp1⟩;rw [ho.out,if_pos rfl]at hp1;obtain⟨vr,rfl,hor⟩:=hp1;obtain⟨Ar,cr,rfl,hcr,hrr⟩:=BU hor;have HB1:=Aa hb1;replace y0:=(hb1.cell (p:=⟨jb,0,none⟩) hjl).trans y0;replace y1:=(hb1.cell (p:=⟨jb,1,none⟩) hjl).trans y1;replace u0:=(hb1.cell (p:=⟨x,0,none⟩) hxl).trans u0;replace u1:=(hb1.cell (p:=⟨x,1,none⟩) hxl).trans u1;replace e0:=(hb1.cell (p:=⟨w.heap.size,0,none⟩) hwl).trans e0;replace e1:=(hb1.cell (p:=⟨w.heap.size,1,none⟩) hwl).trans e1;replace e2:=(hb1.cell (p:=⟨w.heap.size,2,none⟩) hwl).trans e2;replace e3:=(hb1.cell (p:=⟨w.heap.size,3,none⟩) hwl).trans e3;have Acf:jb<w1.heap.size:=Bg hjl hb1.size;have Acg:x<w1.heap.size:=Bg hxl hb1.size;have aH:Hid (Ja w1 G Ar (Du nd).length ((Du nd).map wv)):=Aa (Ja.KY hor (fun b hb1' _ hg=>by have:=iq.out b hg;have:=HB.out.size;omega));clear hb1 HE hor hrr
     go_wp2_with fail
     go_region_with(first
      | (go_at_call 195;go_loud(refine(HC.out _ _ _ _).mono ?_;rintro e w2⟨rfl,hb2⟩;have z0:=(hb2.cell (p:=⟨jb,0,none⟩) Acf).trans y0;have z1:=(hb2.cell (p:=⟨x,1,none⟩) Acg).trans u1;have hB2:=(HB1.out.trans (((Dr.drew w1).below W.heap.size))).trans (hb2.mono HB1.out.size)))
      | (go_at_call 34;go_loud(refine(HRs.out _ hB2).mono ?_;rintro e w3⟨rfl,hs3,hm3⟩)))
     all_goals(obtain⟨G',q1,q2,q3⟩:=(HJW.out.below hB2).move HG.out hs3 hm3)
     all_goals(have wP:Hid (Aq G G' w w3):=Aa ((Aq.of_below (HB.out.trans (hB2.mono HB.out.size))).trans q3))
     all_goals(have HR3:Hid (Ja w3 G' Ar (Du nd).length ((Du nd).map wv)):=Aa ((aH.out.below (((Dr.drew w1).below w1.heap.size).trans hb2)).moved q3))
     all_goals(have aX:=Aa q1)
     all_goals(have HG3:=Aa q2)
     all_goals(clear q1 q2 q3 hs3 hm3 hB2 z0 z1 hb2 y0 y1 u0 u1 e0 e1 e2 e3 Acf Acg aH)
     all_goals(have y0:=aX.out.box.cell 0)
     all_goals(have y1:=aX.out.box.cell 1)
     all_goals(simp only [Ac,Ae]at y0 y1)
     all_goals(have u0:=aX.out.ix.box.cell 0)
     all_goals(simp only [Ac]at u0)
     all_goals(have hxj:=aX.out.xj)
     all_goals(have hjx:jb≠x:=fun e=>hxj e.symm)
     all_goals(have gp:=Aa aX.out.row)
     all_goals(have Ail:base<=w3.heap.size:=FB (Ej aX.out.bj aX.out.box.lt))
     all_goals(have hmm:j.made.length<=1000000:=by omega)
     all_goals(clear HC HRs HB1 HB HJW)
     all_goals(go_wp2_with(at_builtin;refine DT rfl (.tmp 39) (.tmp 41) 59 rfl Tryz.Ace w3 base v j.made.length (j.made.map zv) [zv (off:Int)] rfl gp.out rfl w3.heap.size 1 rfl rfl rfl (by decide) (by simp [zv,Value.oneCell']) hmm (by decide) Ail ?_;intro g6 c6 w6 WV TM hK6 dE;have B6:BH w6 jb 235 [.pointer (some ⟨x,0,none⟩),v]:=(hK6.2 jb aX.out.box.lt (fun e=>aX.out.mj e.symm)).trans aX.out.box;have X6:BH w6 x 181 [.pointer (some ⟨d,0,none⟩),.pointer (some ⟨p,0,none⟩)]:=(hK6.2 x aX.out.ix.box.lt (fun e=>aX.out.mx e.symm)).trans aX.out.ix.box;have z0:=B6.cell 0;have z1:=B6.cell 1;have fz1:=B6.frozen 1;have s0:=X6.cell 0;have s1:=X6.cell 1;simp only [Ac,Ae]at z0 z1 s0 s1))
     all_goals(obtain⟨G7,q1,q2,q3⟩:=aX.out.app HG3.out (o:=(off:Int)) (by omega) WV TM hK6 dE)
     all_goals(obtain⟨W7,hW7⟩:∃W7,W7=w6.setCell ⟨jb,1,none⟩ (.slice (some ⟨g6,0,none⟩) (j.made.length+1) c6):=⟨_,rfl⟩)
     all_goals(rw [<-hW7]at q1 q3⊢)
     all_goals(have HPA:=WN q1.ix.sys o (Du nd).length cr Ar (Du nd) (by have:=HOl.out;have:=HLen.out;omega) HEl.out (HR3.out.moved q3).1)
     all_goals(rw [show((8*o:Nat):Int)=(off:Int)by have:=HO8.out;omega]at HPA)
     all_goals(have Yy:=Aa (wP.out.trans q3))
     all_goals(have HJ7:=Aa q1)
     all_goals(have HG7:=Aa q2)
     all_goals(clear q1 q2 q3 WV TM hK6 dE B6 X6 z0 z1 fz1 s0 s1 hW7 wP HR3 aX HG3 y0 y1 u0 gp Ail)
     all_goals(refine HPA.mono ?_)
     all_goals(rintro e w8⟨rfl,F8,hs8,aW⟩)
     all_goals(obtain⟨G8,q1,q2,q3⟩:=HJ7.out.move HG7.out hs8 aW)
     all_goals(have UL:=YU q1.ix.sys (off:Int) (by omega))
     all_goals(rw [show({s:={s1 with ws:=CP s1.ws o (Du nd)},made:=j.made++[(off:Int)]}:Jb).s={s1 with ws:=CP s1.ws (off/8) (Du nd)}by rw [HO8.out,show 8*o/8=o by omega],<-HT.out]at UL)
     all_goals(have UL:=Aa UL)
     all_goals(have HM8:=Aa (Yy.out.trans q3))
     all_goals(have HJ8:=Aa q1)
     all_goals(have HG8:=Aa q2)
     all_goals(have y0:=q1.box.cell 0)
     all_goals(have u1:=q1.ix.box.cell 1)
     all_goals(simp only [Ac,Ae]at y0 u1)
     all_goals(clear q1 q2 q3 hs8 aW HPA Yy HJ7 HG7)
     all_goals(go_wp2_with fail)
     all_goals(refine UL.out.mono ?_)
     all_goals(rintro e w9⟨rfl,F9,hs9,hm9⟩)
     all_goals(obtain⟨G9,q1,q2,q3⟩:=HJ8.out.move HG8.out hs9 hm9)
     all_goals(have HF:Hid (∃G',EW w9 base jb x d p L ⟨T.1,j.made++[(off:Int)]⟩ G'/\Aq G G' w w9):=Aa ⟨G9,⟨F9,_,q1,q2⟩,HM8.out.trans q3⟩)
     all_goals(obtain⟨te,hte⟩:∃te,te=T.2:=⟨_,rfl⟩)
     all_goals(rw [<-hte]at HP⊢)
     all_goals(clear q1 q2 q3 hs9 hm9 HM8 HJ8 HG8 UL y0 u1 HT hte)
     all_goals(by_cases he:te=0)
     all_goals first
      | (have HP':Hid (D5 j nd=(⟨T.1,j.made++[(off:Int)]⟩,UInt64.ofNat off,0)):=Aa (by rw [HP.out,if_pos he])
         subst he;clear HP
         go_wp2_with fail
         go_ret2;refine⟨by rw [HP'.out];show _=Ending.returned (.tuple #[.int .u64 ((UInt64.ofNat off).toNat:Int),.int .i64 0]);rw [HU.out];rfl,?_⟩;rw [HP'.out];exact HF.out)
      | (have HP':Hid (D5 j nd=(⟨T.1,j.made++[(off:Int)]⟩,0,te)):=Aa (by rw [HP.out,if_neg he])
         have t3:(te !=0)=true:=by rw [bne_iff_ne];exact he
         clear HP he
         go_wp2_with fail
         go_ret2;refine⟨by rw [HP'.out];rfl,?_⟩;rw [HP'.out];exact HF.out)
end
abbrev Kv:=List UInt8×UInt64
structure Part where
 items:List Kv
 blocks:List Nat
def BB(nd:Nd):List Kv:=if nd.val≠0 then [(nd.pre,nd.val)]else []
def E5(pre:List UInt8)(lb:UInt8)(l:List Kv):List Kv:=l.map fun kv=>(pre++lb::kv.1,kv.2)
def Bd(pre:List UInt8):List UInt8->List Part->List Kv
 | lb::ls,p::ps=>E5 pre lb p.items++Bd pre ls ps
 | _,_=>[]
def AP(ps:List Part):List Nat:=(ps.map Part.blocks).flatten
inductive Dw(s:St):Nat->UInt64->List Kv->List Nat->Prop
 | mk(r:Nat)(name:UInt64)(nd:Nd)(parts:List Part)(hrd:Et s name=some nd)(hpre:nd.pre.length<=r)(MO:nd.kids≠[]->nd.pre.length+1<=r)(hlen:parts.length=nd.kids.length)
  (hk:∀i(h1:i<nd.kids.length)(h2:i<parts.length),Dw s (r-nd.pre.length-1) nd.kids[i] parts[i].items parts[i].blocks):
  Dw s r name (BB nd++Bd nd.pre nd.labels parts) ((AX name).toNat::AP parts)
section
variable{L:Nat}{s s':St}
theorem iw{c d:Nat}(hc:c=1\/c=2)(hd:d=1\/d=2)(h:AQ c=AQ d):c=d:=by
 rcases hc with rfl| rfl<;>rcases hd with rfl| rfl<;>first| rfl| (simp [AQ]at h)
theorem NZ(x:Nd):CU x=1\/CU x=2:=by unfold CU;split<;>simp
theorem Jc(x:Nd):(Du x).length=8*AQ (CU x):=by
 rw [DY];unfold CU;split<;>rfl
theorem Ie(ok:Bz L s){name:UInt64}{nd:Nd}(h:Et s name=some nd):
 ∃o:Nat,AX name=o/\AO s o (CU nd)/\BG nd=true/\wordsAt s.ws (o/8) (8*AQ (CU nd))=Du nd:=by
 unfold Et at h;split at h
 ·cases h
 ·rename_i h0;split at h
  ·rename_i hd;injection h with h
   have hc0:Dc s (AX name)≠0:=fun e=>h0 (by rw [e];rfl)
   obtain⟨o,ho,ht⟩:=WX ok rfl hc0;obtain⟨h1,h2⟩:=rU _ hd;rw [h]at h1 h2;have h12:=ht.cls ok;have hcc:Dc s (AX name)=CU nd:=by
    refine iw h12 (NZ nd) ?_;have:=congrArg List.length h2;rw [Jc]at this;simp [wordsAt]at this;omega
   rw [hcc]at ht h2;rw [ho,Bq]at h2;exact⟨o,ho,ht,h1,h2.symm⟩
  ·cases h
theorem VE(ok:Bz L s){name:UInt64}{nd:Nd}{o:Nat}(ho:AX name=o)(ht:AO s o (CU nd))(hr:BG nd=true)(hw:wordsAt s.ws (o/8) (8*AQ (CU nd))=Du nd):Et s name=some nd:=by
 have hc:=ht.class ok;have h12:=NZ nd;unfold Et;rw [ho,hc,Bq,hw,if_neg (by have:=(Eh h12).2.1;omega),if_pos (rQ nd hr),dX nd hr]
def EX(s s':St)(B:Nat->Prop):Prop:=∀o c,B o->AO s o c->AO s' o c/\∀j,FY o c j->s'.ws j=s.ws j
theorem EX.mono{B C:Nat->Prop}(h:EX s s' B)(k:∀o,C o->B o):EX s s' C:=fun o c hb ht=>h o c (k o hb) ht
theorem EX.trans{s'':St}{B:Nat->Prop}(h:EX s s' B)(k:EX s' s'' B):EX s s'' B:=fun o c hb ht=>by
 obtain⟨h1,h2⟩:=h o c hb ht;obtain⟨k1,k2⟩:=k o c hb h1;exact⟨k1,fun j hj=>(k2 j hj).trans (h2 j hj)⟩
theorem EX.refl(s:St)(B:Nat->Prop):EX s s B:=fun _ _ _ h=>⟨h,fun _ _=>rfl⟩
theorem Rx{o c:Nat}(h:∀j,FY o c j->s'.ws j=s.ws j):wordsAt s'.ws (o/8) (8*AQ c)=wordsAt s.ws (o/8) (8*AQ c):=by
 unfold wordsAt;refine List.map_congr_left fun t ht=> ?_
 have:=List.mem_range.1 ht;exact h _ ⟨by omega,by omega⟩
theorem uw(ok:Bz L s)(ok':Bz L s'){B:Nat->Prop}(k:EX s s' B){name:UInt64}{nd:Nd}(hb:B (AX name).toNat)(h:Et s name=some nd):Et s' name=some nd:=by
 obtain⟨o,ho,ht,hr,hw⟩:=Ie ok h;rw [ho,Bq]at hb;obtain⟨h1,h2⟩:=k o _ hb ht;exact VE ok' ho h1 hr ((Rx h2).trans hw)
theorem QL{ps:List Part}{i:Nat}(h:i<ps.length){o:Nat}(ho:o∈ps[i].blocks):o∈AP ps:=by
 unfold AP;exact List.mem_flatten.2 ⟨_,List.mem_map.2 ⟨_,BD h,rfl⟩,ho⟩
theorem Dw.keep(ok:Bz L s)(ok':Bz L s'){B:Nat->Prop}(k:EX s s' B){r:Nat}{name:UInt64}{items:List Kv}{blocks:List Nat}(h:Dw s r name items blocks)(hb:∀o∈blocks,B o):Dw s' r name items blocks:=by
 induction h with
 | mk r name nd parts hrd hpre MO hlen hk ih=>
   refine .mk r name nd parts (uw ok ok' k (hb _ (Be ..)) hrd) hpre MO hlen fun i h1 h2=>ih i h1 h2 fun o ho=>hb o (Bi _ (QL h2 ho))
theorem Ei{pre:List UInt8}:∀{ls:List UInt8}{ps:List Part}{kv:Kv},kv∈Bd pre ls ps->∃(i:Nat)(h1:i<ls.length)(h2:i<ps.length)(kv':Kv),kv'∈ps[i].items/\kv=(pre++ls[i]::kv'.1,kv'.2)
 | [],_,kv,h=>by simp [Bd]at h
 | _::_,[],kv,h=>by simp [Bd]at h
 | lb::ls,p::ps,kv,h=>by
   rw [Bd]at h;rcases List.mem_append.1 h with h| h
   ·obtain⟨kv',hk,e⟩:=List.mem_map.1 h;exact⟨0,by simp,by simp,kv',hk,e.symm⟩
   ·obtain⟨i,h1,h2,kv',hk,e⟩:=Ei h;exact⟨i+1,by simp;omega,by simp;omega,kv',hk,e⟩
theorem EF{nd:Nd}{kv:Kv}(h:kv∈BB nd):kv=(nd.pre,nd.val)/\nd.val≠0:=by
 unfold BB at h;split at h
 ·rename_i h0;exact⟨List.mem_singleton.1 h,h0⟩
 ·cases h
theorem LM(p a b:List UInt8):Op.bytesLess (p++a) (p++b)=Op.bytesLess a b:=by
 induction p with
 | nil=>rfl
 | cons x p ih=>simp [Op.bytesLess,ih]
theorem Zg(p:List UInt8)(x:UInt8)(t:List UInt8):Op.bytesLess p (p++x::t)=true:=by
 induction p with
 | nil=>rfl
 | cons y p ih=>simp [Op.bytesLess,ih]
theorem Ry{x y:UInt8}(h:x.toNat<y.toNat)(a b:List UInt8):Op.bytesLess (x::a) (y::b)=true:=by
 simp only [Op.bytesLess,Bool.or_eq_true,decide_eq_true_eq];exact .inl (UInt8.lt_iff_toNat_lt.2 h)
def wX(l:List Kv):Prop:=l.Pairwise fun a b=>Op.bytesLess a.1 b.1=true
theorem uy{pre:List UInt8}{lb:UInt8}{l:List Kv}(h:wX l):wX (E5 pre lb l):=by
 unfold wX E5;rw [List.pairwise_map];refine h.imp fun{a b}hab=> ?_
 show Op.bytesLess (pre++lb::a.1) (pre++lb::b.1)=true;rw [LM];simp [Op.bytesLess,hab]
theorem UO{pre:List UInt8}:∀{ls:List UInt8}{ps:List Part},Dp ls=true->(∀p∈ps,wX p.items)->wX (Bd pre ls ps)
 | [],_,_,_=>by simp [Bd,wX]
 | _::_,[],_,_=>by simp [Bd,wX]
 | lb::ls,p::ps,hr,h=>by
   obtain⟨h1,h2⟩:=IV hr;rw [Bd];refine List.pairwise_append.2 ⟨uy (h p (Be ..)),UO h1 (fun q hq=>h q (Bi _ hq)),fun a ha b hb=> ?_⟩;obtain⟨a',_,rfl⟩:=List.mem_map.1 ha;obtain⟨i,h3,h4,b',_,rfl⟩:=Ei hb;show Op.bytesLess (pre++lb::a'.1) (pre++ls[i]::b'.1)=true;rw [LM];exact Ry (h2 _ (BD h3)) _ _
theorem Dw.up(ok:Bz L s){r:Nat}{name:UInt64}{items:List Kv}{blocks:List Nat}(h:Dw s r name items blocks):wX items:=by
 induction h with
 | mk r name nd parts hrd hpre MO hlen hk ih=>
   obtain⟨o,ho,ht,hr,_⟩:=Ie ok hrd;have hr':=(AY nd).1 hr;refine List.pairwise_append.2 ⟨?_,UO hr'.2.2.2.2.1 (fun p hp=> ?_),fun a ha b hb=> ?_⟩
   ·unfold BB;split<;>simp
   ·obtain⟨i,hi,rfl⟩:=List.getElem_of_mem hp;exact ih i (by omega) hi
   ·obtain⟨rfl,_⟩:=EF ha;obtain⟨i,h3,h4,b',_,rfl⟩:=Ei hb;exact Zg _ _ _
theorem Xo{f:Nat}{ahead pre:List UInt8}:∀(ls:List UInt8)(ks:List UInt64)(ps:List Part)(i0:List Kv)(m0:List Int),ls.length=ks.length->ps.length=ks.length->
 (∀i(h1:i<ls.length)(h2:i<ks.length)(h3:i<ps.length)(i0:List Kv)(m0:List Int),(∀o∈ps[i].blocks,(o:Int)∉m0)->CY s f ks[i] (ahead++pre++[ls[i]]) (i0,m0)=some (i0++ps[i].items.map (fun kv=>(pairs (ahead++pre++ls[i]::kv.1),kv.2)),m0++ps[i].blocks.map CV))->
 (AP ps).Nodup->(∀o∈AP ps,(o:Int)∉m0)->
 (ls.zip ks).foldlM (fun st(lk:UInt8×UInt64)=>CY s f lk.2 (ahead++pre++[lk.1]) st) (i0,m0)=some (i0++(Bd pre ls ps).map (fun kv=>(pairs (ahead++kv.1),kv.2)),m0++(AP ps).map CV)
 | [],ks,ps,i0,m0,h1,h2,_,_,_=>by
   have:ks=[]:=Bj (by simpa using h1.symm);subst this;have:ps=[]:=Bj (by simpa using h2);subst this;simp [Bd,AP]
 | lb::ls,[],ps,i0,m0,h1,_,_,_,_=>by simp at h1
 | lb::ls,k::ks,[],i0,m0,_,h2,_,_,_=>by simp at h2
 | lb::ls,k::ks,p::ps,i0,m0,h1,h2,H,hn,hm=>by
   have e:AP (p::ps)=p.blocks++AP ps:=rfl;rw [e]at hn hm;obtain⟨hn1,hn2,hn3⟩:=List.nodup_append.1 hn;have h0:=H 0 (by simp) (by simp) (by simp) i0 m0 (fun o ho=>hm o (Bl _ ho));simp only [List.getElem_cons_zero]at h0;rw [List.zip_cons_cons,List.foldlM_cons,h0];simp only [Option.bind_eq_bind,Option.bind_some];rw [Xo ls ks ps _ _ (by simpa using h1) (by simpa using h2) (fun i h1 h2 h3 i0 m0 hd=> ?_) hn2 (fun o ho=> ?_)]
   ·rw [e,Bd];simp [E5,AA,Function.comp_def]
   ·have:=H (i+1) (by simp;omega) (by simp;omega) (by simp;omega) i0 m0 hd;simpa using this
   ·rw [LU];rintro(h| h)
    ·exact hm o (Bc _ ho) h
    ·obtain⟨o',ho',e2⟩:=List.mem_map.1 h;have:o'=o:=Int.ofNat.inj e2;subst this;exact hn3 o' ho' o' ho rfl
theorem Dw.Ae8(ok:Bz L s){r:Nat}{name:UInt64}{items:List Kv}{blocks:List Nat}(h:Dw s r name items blocks):∀(f:Nat)(ahead:List UInt8)(i0:List Kv)(m0:List Int),r<f->ahead.length+r<=32->blocks.Nodup->(∀o∈blocks,(o:Int)∉m0)->(∀kv∈items,KE (ahead++kv.1)=true)->
 CY s f name ahead (i0,m0)=some (i0++items.map (fun kv=>(pairs (ahead++kv.1),kv.2)),m0++blocks.map CV):=by
 induction h with
 | mk r name nd parts hrd hpre MO hlen hk ih=>
   intro f ahead i0 m0 hf hal hn hm hkey;obtain⟨o,ho,ht,hr,_⟩:=Ie ok hrd;have hr':=(AY nd).1 hr;obtain⟨f,rfl⟩:∃g,f=g+1:=⟨f-1,by omega⟩;obtain⟨hn1,hn2⟩:=List.nodup_cons.1 hn;rw [CY,hrd]
   dsimp only
   have hmo:=hm (AX name).toNat (Be ..);rw [ho,Bq]at hmo;rw [if_neg (by
    rw [ho];rintro(h| h)
    ·exact hmo (List.contains_iff_mem.1 h)
    ·simp only [Az]at h;omega)]
   rw [if_neg (by
    rintro⟨h1,h2⟩;have:=hkey (nd.pre,nd.val) (Bl _ (by unfold BB;rw [if_pos h1];exact List.mem_singleton.2 rfl));rw [this]at h2;cases h2)]
   have hkb:∀o'∈AP parts,((o':Int))∉m0++[AX name]:=fun o' ho' hc=>by
    rcases List.mem_append.1 hc with h| h
    ·exact hm o' (Bi _ ho') h
    ·rw [BM,ho]at h;refine hn1 ?_;rw [ho,Bq];have:o'=o:=by omega
     exact this▸ho'
   rw [Xo nd.labels nd.kids parts _ _ hr'.2.2.1 hlen (fun i h1 h2 h3 i0 m0 hd=> ?_) hn2 hkb]
   ·simp only [ho,DR,Bo,Bq,AA,BI,DN];unfold BB;split<;>simp
   ·have h8:=MO (by intro e;rw [e]at h2;simp at h2);have hnd:parts[i].blocks.Nodup:=by
     have:=(List.pairwise_flatten.1 hn2).1;exact this _ (List.mem_map.2 ⟨_,BD h3,rfl⟩)
    have:=ih i h2 h3 f (ahead++nd.pre++[nd.labels[i]]) i0 m0 (by omega) (by simp only [Az,Bh,D8];omega) hnd hd (fun kv hkv=> ?_)
    ·rw [this];simp
    ·have:=hkey (nd.pre++nd.labels[i]::kv.1,kv.2) (Bc _ ?_)
     ·simpa using this
     ·clear ih hk hkey hm hkb hn hn2 hrd MO hlen;have:∀(ls:List UInt8)(ps:List Part)(i:Nat)(h1:i<ls.length)(h3:i<ps.length),kv∈ps[i].items->(nd.pre++ls[i]::kv.1,kv.2)∈Bd nd.pre ls ps:=by
       intro ls;induction ls with
       | nil=>intro ps i h1;simp at h1
       | cons lb ls ih=>
         intro ps i h1 h3 hk;cases ps with
         | nil=>simp at h3
         | cons p ps=>
           rw [Bd];cases i with
           | zero=>exact Bl _ (List.mem_map.2 ⟨kv,by simpa using hk,rfl⟩)
           | succ i=>exact Bc _ (by simpa using ih ps i (by simpa using h1) (by simpa using h3) (by simpa using hk))
      exact this _ _ i h1 h3 hkv
end
structure Grown(L:Nat)(s0:St)(j:Jb)(B:List Nat):Prop where
 ok:Bz L j.s
 sh:j.s.sh=s0.sh
 nh:∀o d,¬EP j.s o d
 made:j.made=B.map CV
 nC:B.Nodup
 new:∀o∈B,∀d,¬AO s0 o d
 tk:∀o,(∃d,AO j.s o d)<->(∃d,AO s0 o d)\/o∈B
 keep:EX s0 j.s (fun _=>True)
 low:∀i,i<16->j.s.ws i=s0.ws i
theorem Grown.start{L:Nat}{s:St}(ok:Bz L s)(nh:∀o d,¬EP s o d):Grown L s ⟨s,[]⟩ []:=
 ⟨ok,rfl,nh,rfl,Np,(fun _ h=>nomatch h),(fun o=>by simp),EX.refl _ _,fun _ _=>rfl⟩
theorem KL{o:Nat}(h:o<=65536):AX (UInt64.ofNat o)=o:=by
 unfold AX;rw [Dj (by omega)];exact wrap64 _ (by omega) (by omega)
section
variable{L:Nat}{s0:St}{j:Jb}{B:List Nat}
theorem Oa (g : Grown L s0 j B) {n : Nd} (hr : BG n = true) :
    D5 j n = (j, 0, 6) \/ ∃ j' name o, D5 j n = (j', name, 0) /\ o ∉ B /\ Grown L s0 j' (B ++ [o]) /\ AX name = (o : Nat) /\ name ≠ 0 /\ Et j'.s name = some n /\ EX j.s j'.s (fun _ => True) := by
  unfold D5
  rw [hr]
  simp only [Bool.not_true, Bool.false_eq_true, if_false]
  cases hres : CJ j.s (CU n) with
  | none => exact .inl rfl
  | some p =>
    obtain ⟨off, s1⟩ := p
    right
    obtain ⟨ok1, hw1, nD, Tj, hh1, _, hh2, ht1⟩ := Rt g.ok (NZ n) hres
    have hb1 := hh1.bounds ok1
    have htf := ok1.sh.NR
    have hL1 := g.ok.L1
    have h12 := NZ n
    have hlen := Jc n
    obtain ⟨l1, l2, l3, l4⟩ := Eh h12
    have hput : ∀ i, ¬ FY off (CU n) i -> CP s1.ws (off / 8) (Du n) i = s1.ws i := fun i hi => by
      unfold CP
      rw [if_neg]
      intro h
      exact hi ⟨h.1, by rw [hlen] at h; exact h.2⟩
    have hnot : ∀ i, i < 16 + s1.sh.BQ -> ¬ FY off (CU n) i := fun i hi h => by
      unfold FY at h; omega
    obtain ⟨s1', hs1'⟩ : ∃ s1', s1' = ({ s1 with ws := CP s1.ws (off / 8) (Du n) } : St) := ⟨_, rfl⟩
    have Rz : Bz L s1' := hs1' ▸ ok1.words (fun i hi => hput _ (hnot _ (by omega)))
    have aY : EP s1' off (CU n) := by rw [hs1']; exact hh1
    obtain ⟨s2, e2, ok2, hsh2, hw2, ht2, Ae9⟩ := aP Rz aY
    have iy : s1'.sh = s1.sh := by rw [hs1']
    have ht1' : ∀ o d, AO s1' o d <-> AO j.s o d := fun o d => by rw [hs1']; exact ht1 o d
    have hoff := KL (o := off) (by omega)
    have hkeep : EX j.s s2 (fun _ => True) := fun o c _ ht => by
      have Xp := (ht1' o c).2 ht
      obtain ⟨hne, hap⟩ := OA Rz aY Xp
      have fH := Xp.bounds Rz
      refine ⟨(ht2 o c).2 (.inl Xp), fun i hi => ?_⟩
      rw [hw2 i (.inr (Rz.Dz fH.1 hi)), hs1']
      show CP s1.ws (off / 8) (Du n) i = _
      rw [hput i (fun h => PR hap hb1.2.2 fH.2.2 h hi), hw1]
    have hnew : ∀ d, ¬ AO j.s off d := fun d hd => (OA Rz aY ((ht1' off d).2 hd)).1 rfl
    have hnB : off ∉ B := fun h => by
      obtain ⟨d, hd⟩ := (g.tk off).2 (.inr h)
      exact hnew d hd
    have hrd : Et s2 (UInt64.ofNat off) = some n := by
      refine VE ok2 hoff ((ht2 _ _).2 (.inr ⟨rfl, rfl⟩)) hr ?_
      unfold wordsAt
      refine DX (by simp [hlen]) fun t h1 h2 => ?_
      simp only [List.getElem_map, List.getElem_range]
      have htl : t < 8 * AQ (CU n) := by simpa using h1
      have hib : FY off (CU n) (off / 8 + t) := ⟨by omega, by omega⟩
      rw [hw2 _ (.inr (Rz.Dz (by rw [iy]; exact hb1.1) hib)), hs1']
      show CP s1.ws (off / 8) (Du n) (off / 8 + t) = _
      unfold CP
      rw [if_pos ⟨by omega, by omega⟩, Nat.add_sub_cancel_left, AZ, Af h2]
      rfl
    refine ⟨⟨s2, j.made ++ [(off : Int)]⟩, UInt64.ofNat off, off, ?_, hnB, ⟨ok2, by rw [hsh2, iy, nD, g.sh], fun o d h => ?_, by rw [g.made]; simp, ?_, fun o ho d hd => ?_, fun o => ?_, g.keep.trans hkeep, fun i hi => ?_⟩, hoff, ?_, hrd, hkeep⟩
    · rw [hs1'] at e2
      simp only [e2, if_true]
    · obtain ⟨h1, h2⟩ := (Ae9 o d).1 h
      rw [hs1'] at h1
      rcases hh2 o d h1 with h3 | h3
      · exact g.nh o d h3
      · exact h2 h3
    · exact List.nodup_append.2 ⟨g.nC, by simp, fun a ha b hb e => by rw [BM] at hb; subst hb; exact hnB (e ▸ ha)⟩
    · rcases List.mem_append.1 ho with h | h
      · exact g.new o h d hd
      · rw [BM] at h
        subst h
        obtain ⟨d', hd'⟩ := (g.tk o).2 (.inl ⟨d, hd⟩)
        exact hnew d' hd'
    · have h1 : (∃ d, AO s2 o d) <-> (∃ d, AO j.s o d) \/ o = off := by
        constructor
        · rintro ⟨d, hd⟩
          rcases (ht2 o d).1 hd with h | h
          · exact .inl ⟨d, (ht1' o d).1 h⟩
          · exact .inr h.1
        · rintro (⟨d, hd⟩ | rfl)
          · exact ⟨d, (ht2 o d).2 (.inl ((ht1' o d).2 hd))⟩
          · exact ⟨_, (ht2 _ _).2 (.inr ⟨rfl, rfl⟩)⟩
      show (∃ d, AO s2 o d) <-> _
      rw [h1, g.tk o, LU, BM, or_assoc]
    · show s2.ws i = _
      rw [hw2 i (.inl hi), hs1']
      show CP s1.ws (off / 8) (Du n) i = _
      rw [hput i (hnot i (by omega)), hw1, g.low i hi]
    · intro e
      have := congrArg UInt64.toNat e
      rw [Dj (by omega)] at this
      simp at this
      omega
def yV(L:Nat)(s0:St)(j:Jb)(B:List Nat)(r:Nat)(l:List UInt8)(value:UInt64)(res:Jb×UInt64×Int):Prop:=
 (res.2.2=6/\∃B',Grown L s0 res.1 B')\/
 (res.2.2=0/\∃C bl,Grown L s0 res.1 (B++C)/\EX j.s res.1.s (fun _=>True)/\res.2.1≠0/\Dw res.1.s r res.2.1 [(l,value)] bl/\bl.Perm C)
theorem uz{s:St}{name:UInt64}{l:List UInt8}{value:UInt64}{r o:Nat}(h:Et s name=some ⟨l,value,[],[]⟩)(ho:AX name=o)(hl:l.length<=r)(hv:value≠0):Dw s r name [(l,value)] [o]:=by
 have:=Dw.mk r name ⟨l,value,[],[]⟩ [] h hl (fun h=>absurd rfl h) rfl (fun i h1 _=>absurd h1 (by simp));rw [ho,Bq]at this;simpa [BB,Bd,AP,hv]using this
theorem RD{pre:List UInt8}{val:UInt64}{label:UInt8}{kid:UInt64}(hp:pre.length<=15)(hn:pre.all Df=true)(h16:Df label=true)(hk:kid≠0):Jk ⟨pre,val,[],[]⟩ label kid=true/\GG ⟨pre,val,[],[]⟩ label kid=⟨pre,val,[label],[kid]⟩/\BG ⟨pre,val,[label],[kid]⟩=true/\BG ⟨pre,val,[],[]⟩=true:=by
 have hr0:BG ⟨pre,val,[],[]⟩=true:=by
  rw [AY];exact⟨hp,hn,rfl,rfl,rfl,fun i h=>absurd h (by simp)⟩
 have hk':kid.toNat≠0:=fun e=>hk (UInt64.toNat_inj.1 (by simpa using e))
 refine⟨?_,rfl,?_,hr0⟩
 ·rw [PK];exact⟨hr0,by simpa [Df]using h16,hk',rfl⟩
 ·rw [AY];refine⟨hp,hn,rfl,by simp [h16],rfl,fun i h=> ?_⟩;simp only [Bh,D8]at h;have:i=0:=by omega
  subst this;exact hk'
theorem iC{s:St}{name kid:UInt64}{pre:List UInt8}{val:UInt64}{label:UInt8}{r o:Nat}{il:List Kv}{bl:List Nat}(h:Et s name=some ⟨pre,val,[label],[kid]⟩)(ho:AX name=o)(hl:pre.length+1<=r)(ht:Dw s (r-pre.length-1) kid il bl):
 Dw s r name ((if val≠0 then [(pre,val)]else [])++E5 pre label il) (o::bl):=by
 have:=Dw.mk r name ⟨pre,val,[label],[kid]⟩ [⟨il,bl⟩] h (by simp only;omega) (fun _=>hl) rfl (fun i h1 h2=>by
  simp only [Bh,D8]at h1;have:i=0:=by omega
  subst this;exact ht)
 rw [ho,Bq]at this;simpa [BB,Bd,AP]using this
theorem VF:∀(f:Nat){j:Jb}{B:List Nat}(_:Grown L s0 j B)(r:Nat)(l:List UInt8)(value:UInt64),l.length<f->l.length<=r->l.all Df=true->value≠0->yV L s0 j B r l value (Ii f j l value)
 | 0,_,_,_,_,_,_,h,_,_,_=>absurd h (by omega)
 | f+1,j,B,g,r,l,value,hf,hlr,hn,hv=>by
   rw [Ii];by_cases h15:l.length<=15
   ·rw [if_pos h15];have hr:BG ⟨l,value,[],[]⟩=true:=by
     rw [AY];exact⟨h15,hn,rfl,rfl,rfl,fun i h=>absurd h (by simp)⟩
    rcases Oa g hr with e| ⟨j',name,o,e,ho,g',hoff,hn0,hrd,hk⟩
    ·rw [e];exact .inl ⟨rfl,B,g⟩
    ·rw [e];exact .inr ⟨rfl,[o],[o],g',hk,hn0,uz hrd hoff hlr hv,List.Perm.refl _⟩
   ·rw [if_neg h15];have ih:=VF f g (r-15-1) (l.drop 16) value (by rw [Au];omega) (by rw [Au];omega) (Su _ _ _ hn) hv;generalize Ii f j (l.drop 16) value=res at ih;obtain⟨j1,kid,e⟩:=res;simp only;unfold Ey;rcases ih with⟨e1,B',g1⟩| ⟨e1,C,bl,g1,hk1,hn1,ht1,hp1⟩
    ·simp only at e1 g1;subst e1;rw [if_pos (by decide)];exact .inl ⟨rfl,B',g1⟩
    ·simp only at e1 g1 hk1 hn1 ht1;subst e1;rw [if_neg (by simp)];have hlt:(l.take 15).length=15:=by simp;omega
     have Aim:l.getD 15 0=l[15]'(by omega):=by rw [AZ,Af (by omega)];rfl
     have hlab:Df (l.getD 15 0)=true:=by rw [Aim];exact List.all_eq_true.1 hn _ (BD _)
     obtain⟨w1,w2,w3,_⟩:=RD (val:=0) (Nat.le_of_eq hlt) (Sr _ _ 15 hn) hlab hn1;rw [if_pos w1,w2];rcases Oa g1 w3 with e| ⟨j',name,o,e,ho,g',hoff,hn0,hrd,hk⟩
     ·rw [e];exact .inl ⟨rfl,_,g1⟩
     ·rw [e];refine .inr ⟨rfl,C++[o],o::bl,by rw [<-AA];exact g',hk1.trans hk,hn0,?_,?_⟩
      ·have:=iC (r:=r) hrd hoff (by rw [hlt];omega) (by rw [hlt];exact ht1.keep g1.ok g'.ok hk (fun _ _=>trivial));have e2:l.take 15++l.getD 15 0::l.drop 16=l:=by
        rw [Aim]
        conv=>rhs;rw [<-List.take_append_drop 15 l]
        rw [List.drop_eq_getElem_cons (by omega:15<l.length)]
       rw [if_neg (by simp),DN]at this;unfold E5 at this;simp only [Bo,Em,e2]at this;exact this
      ·refine List.Perm.trans ?_ (List.perm_append_singleton o C).symm;exact List.Perm.cons _ hp1
end
theorem Tryz.Ach:IE Tryz.prog 122 126 (.agg #[.string ⟨#[]⟩,.int .u64 0]) 2 24:=⟨Tryz.underlying122,by kernel_rfl,rfl⟩
theorem Tryz.IL:Tryz.prog.underlying 142=some (.map 3 3):=Tryz.underlying142
theorem Tryz.VG(W:World):(zeroValue 3).run Tryz.prog W= .ok (.int .i64 0) W:=by
 have h:(Tryz.prog.info? 3).map (·.zero)=some (some (.int .i64 0)):=by kernel_rfl
 cases hi:Tryz.prog.info? 3 with
 | none=>rw [hi]at h;cases h
 | some i=>
   rw [hi]at h;simp only [Option.map_some,Option.some.injEq]at h;simp [zeroValue,typeInfo,hi,h]
def Lr(r:Option (List (List UInt8×UInt64)×List Int))(base sb mb x:Nat)(w:World)(e:Ending)(w':World):Prop:=
 Below base w w'/\CW w w'/\match r with
  | none=>e= .returned (.int .i64 5)
  | some (items',met')=>e= .returned (.int .i64 0)/\∃v',DJ w' base sb mb x items' met' v'
section
variable{len:Nat->Nat}{w w':World}{base sb mb x d p L:Nat}{s:St}{F:Nat->Prop}
theorem Qu.past(h:Qu len w x d p L s F)(k:Below base w w')(hF:∀b,F b->b<base)(hx:x<base)(ht:0<base/\1<base):Qu len w' x d p L s F:=by
 have t:Touch (fun b=>base<=b) w w':=⟨k.os,k.tape,k.output,k.size,fun b _ hn=>k.block b (by omega)⟩;exact⟨h.sys.keep t (fun b hb hn=>by have:=hF b hb;omega) (by omega) (by omega),h.box.touch t (by omega),h.out⟩
theorem Zh{o:Int}:∀{l:List Int},o∈l->l.Nodup->∃l1 l2,l=l1++o::l2/\o∉l1
 | [],h,_=>by cases h
 | a::t,h,hn=>by
   obtain⟨h1,h2⟩:=List.nodup_cons.1 hn;rcases List.mem_cons.1 h with rfl| ho
   ·exact⟨[],t,rfl,by simp⟩
   ·obtain⟨l1,l2,e,hno⟩:=Zh ho h2;refine⟨a::l1,l2,by rw [e];rfl,fun hm=> ?_⟩;rcases List.mem_cons.1 hm with rfl| hm
    ·exact h1 ho
    ·exact hno hm
theorem nG(h:Qu len w x d p L s F)(_:∀b,F b->b<base){items:List (List UInt8×UInt64)}{met:List Int}{v:Value}(hs:DJ w base sb mb x items met v)(f:Nat)(name:UInt64)(ahead:List UInt8)(A:Option Addr)(c:Nat)(hr:Et s name=none):
 Calls Tryz.prog 110 #[.pointer (some ⟨sb,0,none⟩),.int .u64 (name.toNat:Int),.slice A ahead.length c] w (Lr (CY s (f+1) name ahead (items,met)) base sb mb x w):=by
 have HP:Hid (CY s (f+1) name ahead (items,met)=none):=Aa (by rw [CY,hr]);have HR:=Aa (II h name);have HRn:=Aa hr;have y0:=hs.box.cell 0;simp only [Ac]at y0;have hbs:base<=w.heap.size:=FB (Ej hs.bs hs.box.lt);clear h hs hr;go_enter Tryz.func110,Tryz.ntmps110
 go_wp2_with fail
 refine HR.out.mono ?_;rintro e w1⟨hb1,hp1⟩;rw [HRn.out]at hp1;subst hp1;have HB:=Aa (hb1.mono hbs);have yX:=Aa (CW.of_below hb1);clear hb1 HR
 go_wp2_with fail
 go_ret;refine⟨HB.out.alloc (AL hbs HB.out.size) _,yX.out.trans (CW.of_below ((Below.refl _ _).alloc (Ad _) _)),?_⟩;rw [HP.out];rfl
theorem uA(h:Qu len w x d p L s F)(_:∀b,F b->b<base){items:List (List UInt8×UInt64)}{met:List Int}{v:Value}(hs:DJ w base sb mb x items met v)(f:Nat)(name:UInt64)(ahead:List UInt8)(A:Option Addr)(c:Nat)(hA:JP w A ahead)(hac:ahead.length<=c)(hal:ahead.length<=33)(nd:Nd)(hr:Et s name=some nd)(hm:AX name∈met):
 Calls Tryz.prog 110 #[.pointer (some ⟨sb,0,none⟩),.int .u64 (name.toNat:Int),.slice A ahead.length c] w (Lr (CY s (f+1) name ahead (items,met)) base sb mb x w):=by
 have HP:Hid (CY s (f+1) name ahead (items,met)=none):=Aa (by rw [CY,hr];simp only;rw [if_pos (.inl (by simpa using hm))]);have HR:=Aa (II h name);have HRn:=Aa hr;have HS:=Aa hs;have hwr:IntKind.i64.wrap (name.toNat:Int)=AX name:=rfl;have hbl:=(Ez hr).1;have y0:=hs.box.cell 0;simp only [Ac]at y0;have hbs:base<=w.heap.size:=FB (Ej hs.bs hs.box.lt);obtain⟨l1,l2,hl,hno⟩:=Zh hm hs.nC;have HL:=Aa hl;have RY:Hid (∀q∈l1.map (fun o=>(o,(1:Int))),q.1≠AX name):=Aa (fun q hq=>by
  obtain⟨o,ho,rfl⟩:=List.mem_map.1 hq;exact fun e=>hno (e▸ho))
 have HA:=Aa hA;generalize AX name=off at*;clear h hs hr hm hl hno hA;go_enter Tryz.func110,Tryz.ntmps110
 go_wp2_with fail
 refine HR.out.mono ?_;rintro e w1⟨hb1,hp1⟩;rw [HRn.out]at hp1;obtain⟨vn,rfl,hnd⟩:=hp1;obtain⟨A1,c1,A2,c2,A3,c3,rfl,o1,o2,o3⟩:=hnd;obtain⟨W2,hW2⟩:∃W2,W2=w1.alloc (.cells #[.slice A1 nd.pre.length c1,.int .u64 (nd.val.toNat:Int),.slice A2 nd.labels.length c2,.slice A3 nd.kids.length c3] 225):=⟨_,rfl⟩;have BN:BH W2 w1.heap.size 225 [.slice A1 nd.pre.length c1,.int .u64 (nd.val.toNat:Int),.slice A2 nd.labels.length c2,.slice A3 nd.kids.length c3]:=hW2▸heap_alloc_new _ _;have Fg:Below w1.heap.size w1 W2:=hW2▸(Below.refl _ _).alloc (Ad _) _;have hb2:Below w.heap.size w W2:=hb1.trans (Fg.mono hb1.size);have S2:=HS.out.below hb2;have hmap:Jm W2 mb (l1.map (fun o=>(o,(1:Int)))++(off,1)::l2.map (fun o=>(o,(1:Int)))):=by
  have:=S2.map;rw [HL.out]at this;simpa using this
 have k1:=NM Tryz.IL Tryz.underlying3 W2 mb _ _ off 1 hmap RY.out;have k2:=Abl Tryz.IL Tryz.underlying3 W2 mb _ _ off 1 2 hmap RY.out;obtain⟨W3,hW3⟩:∃W3,W3=D9 W2 mb (Gi 0 (l1.map (fun o=>(o,(1:Int)))++(off,2)::l2.map (fun o=>(o,(1:Int))))).toArray (l1.map (fun o=>(o,(1:Int)))++(off,2)::l2.map (fun o=>(o,(1:Int)))).length:=⟨_,rfl⟩;rw [<-hW3]at k2;have t3:Touch (fun b=>b=mb) W2 W3:=hW3▸Ia _ _ _ _;have hm3:Jm W3 mb (l1.map (fun o=>(o,(1:Int)))++(off,2)::l2.map (fun o=>(o,(1:Int)))):=by rw [hW3];exact LJ _ _ _ _ hmap.lt
 have hk3:CW W2 W3:=⟨t3.size,fun g cs e fz _ hg=>t3.block g (Array.getElem?_eq_some_iff.1 hg).1 (fun e'=>by
  unfold Jm at hmap;rw [e',hmap]at hg;injection hg with hg
  cases hg)⟩
 have ET:Below base W2 W3:=t3.below (AL hbs hb2.size) (fun k e=>e▸S2.bm);have dH:=hk3.box BN;have qx:=(HA.out.keep (CW.of_below hb2)).keep hk3;have hpre:Rd W3 A1 nd.pre.length (nd.pre.map bv):=(BK (hk3.own (.inl rfl) (own_below o1 Fg))).2;have S3:BH W3 sb 144 [.pointer (some ⟨x,0,none⟩),v,.map (some mb)]:=S2.box.touch t3 S2.sm;clear hW3;have z0:=S2.box.cell 0;have z2:=S2.box.cell 2;simp only [Ac,Ae]at z0 z2;rw [hW2]at k1 k2 z0 z2;have HW2:=Aa hW2;clear y0 HR hW2
 go_wp2_with fail
 obtain⟨n0,n1,n2,n3, -⟩:=Cb dH;have HB3:=Aa ((hb2.mono hbs).trans ET);have LP:=Aa ((CW.of_below hb2).trans hk3);have wP:=Aa hm3;have O8:=Aa S3;have HR3:=Aa qx;have aK:=Aa hpre;clear k1 k2 z0 z2 hb1 Fg hb2 S2 hmap t3 hk3 ET BN dH qx hpre o1 o2 o3 hm3 S3
 go_region_law(refine Ic rfl (.tmp 42) (.tmp 44) 39 rfl Tryz.FC A ahead.length (ahead.map bv) (by simp [Act.eval]) (by exact HR3.out.1) (fun a e=>by obtain⟨g,_,_,e',_⟩:=HR3.out.2.1 a e;exact⟨g,e'⟩) (fun e=>by rw [HR3.out.2.2 e];rfl) A1 nd.pre.length c1 (nd.pre.map bv) (by simp [Act.eval]) (by exact aK.out) (Gn _) (by omega) (by decide) ?_;intro A4 c4 w4 hc4 hr4 hb4 Ob)
 all_goals(have Fz:Below W3.heap.size W3 w4:=((Dr.drew W3).below _).trans hb4)
 all_goals(have k5:=NM Tryz.IL Tryz.underlying3 w4 mb _ _ off 2 (wP.out.below Fz) RY.out)
 all_goals(have S4:=O8.out.below Fz O8.out.lt)
 all_goals(have z0:=S4.cell 0)
 all_goals(have z2:=S4.cell 2)
 all_goals(simp only [Ac,Ae]at z0 z2)
 all_goals(have HB4:=Aa (HB3.out.trans (Fz.mono (AL hbs (by have:=HB3.out.size;exact this)))))
 all_goals(have HK4:=Aa (LP.out.trans (CW.of_below Fz)))
 all_goals(clear Fz hb4 Ob hr4 S4 wP O8 HR3 aK n0 n1 n2 n3 HA RY HL HS)
 all_goals(go_wp2_with fail)
 all_goals(go_ret)
 all_goals(refine⟨HB4.out,HK4.out,?_⟩)
 all_goals(rw [HP.out])
 all_goals rfl
end
end Go.Proofs.YtjcppneoncpdbaaGreatDoor
