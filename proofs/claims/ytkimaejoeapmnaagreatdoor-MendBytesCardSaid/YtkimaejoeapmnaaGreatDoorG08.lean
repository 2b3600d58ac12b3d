import Derived.Lib.TrailingZeros
import Derived.Test.YtkimaejoeapmnaaGreatDoorG07
set_option maxHeartbeats 32000000
set_option maxRecDepth 100000
open Go.World renaming block_lt_of_cell?->Dz,frozen?->GG,cell?_of_block->Bz,cell?_alloc_past->CY,cell?_alloc_at->Ja
open Go.Lib renaming hid->Aa
open Nat renaming zero_le->BK,le_refl->Ad,le_trans->Bg,min_eq_left->MN,add_sub_cancel_left->Qv,sub_self->WC,lt_irrefl->Alh,lt_of_lt_of_le->Cf
open List renaming replicate->BB,ext_getElem->EH,getElem?_replicate->Iy,getElem?_append_left->DD,range->D7,getElem?_map->BZ,length_take->DC,getD_eq_getElem?_getD->Bh,getElem?_take->CS,getElem?_eq_getElem->Af,mem_cons_self->Bq,length_cons->BJ,length_nil->Dt,getElem_set->MO,getElem?_append_right->Ew
open Go.Value renaming int->Au,slice->Ac,func->Aoo
open Option renaming map_some->DK,getD_some->OD
open Array renaming getElem?_eq_some_iff->AB
namespace Go.Proofs.YtkimaejoeapmnaaGreatDoor
open Go.RowKit
theorem aT(g i:Nat)(w:World)(z3:w.cell? ⟨g,66*i+65,none⟩=some (.int .i64 0)):
 Calls Tryz.prog 178 #[.pointer (some ⟨g,66*i,none⟩)] w fun e w'=>e= .returned (.tuple #[])/\w=w':=by
 go_enter Tryz.func178,Tryz.ntmps178;go_wp2;go_end0;exact⟨rfl,rfl⟩
theorem Aeh(A:Option Addr)(n c:Nat)(hn:n<=1000000):∃D,∀W,(Instr.slice 80 (.slice A n c) (some (.int .i64 (n:Int))) none none).run Tryz.prog W= .ok (.slice D 0 (c-n)) W:=by
 obtain⟨i,hi,hz0,hz1,hz2⟩:∃i,Tryz.prog.info? 204=some i/\i.zero=some (.agg #[.int .i64 0,.int .u64 0])/\i.size=2/\i.bytes=16:=by
  have hI:(Tryz.prog.info? 204).map (fun i=>(i.zero,i.size,i.bytes))=some (some (.agg #[.int .i64 0,.int .u64 0]),2,16):=by kernel_rfl
  exact info_parts hI
 refine⟨if c=n then A else A.map (·.add (n*2)),fun W=> ?_⟩;have e2:=run_sliceBound (P:=Tryz.prog) (w:=W) .i64 (n:Int) n .sliceB (by omega) (by omega);have e3:(sizeOf 204).run Tryz.prog W= .ok 2 W:=by simp [sizeOf,typeInfo,hi,hz1]
 simp [Instr.slice,run_underlying Tryz.underlying80,Instr.sliceBounds,e2]
theorem uC(g i n c:Nat)(A:Option Addr)(w:World)(hn:n<=1000000)(z1:w.cell? ⟨g,66*i+64,none⟩=some (.slice A n c))(z3:w.cell? ⟨g,66*i+65,none⟩=some (.int .i64 ((n:Int)+1)))
 (f1:w.frozen? ⟨g,66*i+64,none⟩=false)(f2:w.frozen? ⟨g,66*i+65,none⟩=false):
 Calls Tryz.prog 178 #[.pointer (some ⟨g,66*i,none⟩)] w fun e w'=>e= .returned (.tuple #[])/\∃B w1,Below w.heap.size w w1/\w'=(w1.setCell ⟨g,66*i+64,none⟩ (.slice B 0 0)).setCell ⟨g,66*i+65,none⟩ (.int .i64 0):=by
 have aS:g<w.heap.size:=Dz w _ z1;obtain⟨D,hD⟩:=Aeh A n c hn;have b1:IntKind.i64.wrap ((n:Int)+1-1)=(n:Int):=by rw [Int.add_sub_cancel];exact IntWalk.i64_in _ (by omega)
 have b2:IntKind.i64.wrap (n:Int)=(n:Int):=IntWalk.i64_in _ (by omega);have t1:decide ((0:Int)<(n:Int)+1)=true:=decide_eq_true (by omega);go_enter Tryz.func178,Tryz.ntmps178
 go_wp2_with fail
 go_region_with(go_at_call 195;go_loud(refine(uB _ _ _).mono ?_;rintro e w1⟨B,rfl,hb1⟩;have k1:=(hb1.cell (p:=⟨g,66*i+64,none⟩) aS).trans z1;have k2:=(hb1.frozen (p:=⟨g,66*i+64,none⟩) aS).trans f1;have k3:=(hb1.cell (p:=⟨g,66*i+65,none⟩) aS).trans z3;have k4:=(hb1.frozen (p:=⟨g,66*i+65,none⟩) aS).trans f2))
 all_goals(go_wp2_with fail)
 all_goals(go_end0)
 all_goals(exact⟨rfl,B,w1,⟨hb1.os,hb1.tape,hb1.output,hb1.size,hb1.block⟩,rfl⟩)
def SS(k:Nat)(len:Mode)(mark:Nat->Nat):Mode:=⟨fun i=>if i<k/\mark i≠0 then []else len.MJ i,len.lf⟩
def LV(k:Nat)(mark:Nat->Nat)(i:Nat):Nat:=if i<k then 0 else mark i
def KL(k:Nat)(mark:Nat->Nat)(hb:Nat->Option Nat)(i:Nat):Option Nat:=if i<k/\mark i≠0 then none else hb i
theorem Aa2(len:Mode)(mark:Nat->Nat):SS 0 len mark=len:=by
 cases len;rfl
theorem uD(mark:Nat->Nat):LV 0 mark=mark:=by funext i;simp [LV]
theorem Aei(mark:Nat->Nat)(hb:Nat->Option Nat):KL 0 mark hb=hb:=by funext i;simp [KL]
theorem Aid(k:Nat)(len:Mode)(mark:Nat->Nat)(h:mark k=0):SS (k+1) len mark=SS k len mark:=by
 unfold SS;congr 1;funext i;by_cases e:i=k
 ·subst e;simp [h]
 ·simp only [show(i<k+1)=(i<k)by apply propext;omega]
theorem Aej(k:Nat)(mark:Nat->Nat)(h:mark k=0):LV (k+1) mark=LV k mark:=by
 funext i;unfold LV;by_cases e:i=k
 ·subst e;simp [h]
 ·simp only [show(i<k+1)=(i<k)by apply propext;omega]
theorem Alu(k:Nat)(mark:Nat->Nat)(hb:Nat->Option Nat)(h:mark k=0):KL (k+1) mark hb=KL k mark hb:=by
 funext i;unfold KL;by_cases e:i=k
 ·subst e;simp [h]
 ·simp only [show(i<k+1)=(i<k)by apply propext;omega]
theorem Aek(k:Nat)(len:Mode)(mark:Nat->Nat)(h:mark k≠0):SS (k+1) len mark=(SS k len mark).wipe k:=by
 unfold SS Mode.wipe;congr 1;funext i;by_cases e:i=k
 ·subst e;simp [h]
 ·simp only [show(i<k+1)=(i<k)by apply propext;omega,if_neg e]
theorem Aa3(k:Nat)(mark:Nat->Nat):LV (k+1) mark=fun i=>if i=k then 0 else LV k mark i:=by
 funext i;unfold LV;by_cases e:i=k
 ·subst e;simp
 ·simp only [show(i<k+1)=(i<k)by apply propext;omega,if_neg e]
theorem Aie(k:Nat)(mark:Nat->Nat)(hb:Nat->Option Nat)(h:mark k≠0):KL (k+1) mark hb=fun i=>if i=k then none else KL k mark hb i:=by
 funext i;unfold KL;by_cases e:i=k
 ·subst e;simp [h]
 ·simp only [show(i<k+1)=(i<k)by apply propext;omega,if_neg e]
theorem Ael(d L:Nat)(ws:Nat->UInt64)(len:Mode)(mark:Nat->Nat)(g:Nat)(hb:Nat->Option Nat)(k:Nat)(w:World)(hk:k<L)(h:BG w d L ws (SS k len mark) (LV k mark) g (KL k mark hb))
 (hm:mark k=0\/mark k=len k+1)(hlen:len k<=1000000):
 Calls Tryz.prog 178 #[.pointer (some ⟨g,66*k,none⟩)] w fun e w'=>e= .returned (.tuple #[])/\
  BG w' d L ws (SS (k+1) len mark) (LV (k+1) mark) g (KL (k+1) mark hb)/\Touch (fun b=>b=g) w w':=by
 obtain⟨cur,hg,hs,h1,h2⟩:=h.blk;obtain⟨A,c,e1,e2,hc⟩:=h2 k hk;have l1:(SS k len mark).len k=len k:=by simp [SS,Mode.len]
 have m1:LV k mark k=mark k:=by simp [LV]
 rw [l1]at e1;rw [m1]at e2;have z1:w.cell? ⟨g,66*k+64,none⟩=some (.slice A (len k) c):=by rw [cell_of_row w g _ cur _ (0,0) hg];exact e1
 have z3:w.cell? ⟨g,66*k+65,none⟩=some (.int .i64 (mark k:Int)):=by rw [cell_of_row w g _ cur _ (0,0) hg];exact e2
 have f1:w.frozen? ⟨g,66*k+64,none⟩=false:=by simp [GG,hg]
 have f2:w.frozen? ⟨g,66*k+65,none⟩=false:=by simp [GG,hg]
 by_cases h0:mark k=0
 ·rw [h0]at z3;refine(aT g k w z3).mono ?_;rintro e w'⟨rfl,rfl⟩;refine⟨rfl,?_,Touch.refl _ _⟩;rw [Aid _ _ _ h0,Aej _ _ h0,Alu _ _ _ h0];exact h
 ·have hm':mark k=len k+1:=hm.resolve_left h0;rw [hm',Int.natCast_add]at z3;refine(uC g k (len k) c A w hlen z1 z3 f1 f2).mono ?_;rintro e w'⟨rfl,B,w1,hb1,rfl⟩;refine⟨rfl,?_,Touch.setCell (F:=fun b=>b=g) (Touch.setCell (F:=fun b=>b=g) (Touch.of_below hb1) (p:=⟨g,66*k+64,none⟩) (.inl rfl) _) (p:=⟨g,66*k+65,none⟩) (.inl rfl) _⟩;rw [Aek _ _ _ h0,Aa3,Aie _ _ _ h0];exact h.clear hk hb1 B
theorem Aa4(d L:Nat)(ws:Nat->UInt64)(len:Mode)(mark:Nat->Nat)(g:Nat)(hb:Nat->Option Nat)(w:World)(hL:L<=1024)(hL0:0<L)(hu:len.lf≠0)(h:BG w d L ws len mark g hb)
 (hm:∀i,i<L->mark i=0\/mark i=len i+1)(hlen:∀i,i<L->len i<=1000000):
 Calls Tryz.prog 147 #[Aw d] w fun e w'=>e= .returned (.int .i64 0)/\
  BG w' d L ws (SS L len mark).tick (LV L mark) g (KL L mark hb)/\Touch (Df d L g hb) w w':=by
 obtain⟨st,hbx⟩:=h.box;have Aeg:=h.lfr;rw [decide_eq_false hu]at hbx;obtain⟨y0,y1,y2,y3,f0,f1,f2,f3⟩:=C9 hbx;have ha:=uy d L g 0 1 (.int .i64 len.lf) (.int .i64 st) w hL hbx (by omega) (by decide) (by decide) (by decide);have HA:=Aa ha;have H:=Aa h;have HM:=Aa hm;have HL:=Aa hlen;clear ha h hbx hm hlen;go_enter Tryz.func147,Tryz.ntmps147
 go_wp2_with fail
 refine HA.out.mono ?_;rintro e w'⟨rfl,rfl⟩;clear HA
 go_wp2_with fail
 clear y0 y1 y2 y3 f0 f1 f2 f3
 go_loopw [15](fun i wr=>∃k:Nat,k<=L/\i= .int .i64 k/\BG wr d L ws (SS k len mark) (LV k mark) g (KL k mark hb)/\Touch (fun b=>b=g) w wr)(fun i _=>L- (intOf i).toNat)
 case atStart=>exact⟨0,BK _,rfl,by rw [Aa2,uD,Aei];exact H.out,Touch.refl _ _⟩
 case round=>
  obtain⟨k,hk,rfl,hr,ht⟩:=hrel;obtain⟨st2,hbx2⟩:=hr.box;rw [show decide ((SS k len mark).lf=0)=false from decide_eq_false hu]at hbx2;obtain⟨y0,y1,y2,y3,f0,f1,f2,f3⟩:=C9 hbx2;by_cases hlt:k<L
  ·have HF:=Aa (Ael d L ws len mark g hb k wr hlt hr (HM.out k hlt) (HL.out k hlt));have HT:=Aa ht;clear hr ht hbx2
   go_wp2_with fail
   rw [show k*66=66*k by omega];refine HF.out.mono ?_;rintro e w2⟨rfl,hr2,ht2⟩;have ht3:=HT.out.trans ht2 (fun b hb'=> .inl hb');clear HF HT y0 y1 y2 y3 f0 f1 f2 f3 ht2
   go_wp2_with fail
   go_roundw
   case rel=>exact⟨k+1,by omega,by go_num,hr2,ht3⟩
   case measure=>simp [intOf];omega
  ·have hkn:k=L:=by omega
   subst hkn;have HD:=Aa (UE d g k len.lf st2 wr hu Aeg hbx2);have HR:=Aa hr;have HT:=Aa ht;clear hr ht hbx2
   go_wp2_with fail
   refine HD.out.mono ?_;rintro e w2⟨rfl,ht6,st',Nz⟩;clear HD y0 y1 y2 y3 f0 f1 f2 f3
   go_wp2_with fail
   go_ret;exact⟨rfl,HR.out.step ht6 Nz,(HT.out.mono (fun b e=> .inr (.inl e))).trans ht6 (fun b h=> .inl (.inl h))⟩
def LW:Array Value:=(BB 64 (Au .u8 0)++[Ac none 0 0,Au .i64 0]).toArray
theorem Tryz.uF:(Tryz.prog.info? 82).bind (fun i=>i.zero.map (fun z=>(z.cells,i.size,i.bytes)))=some (LW,66,96):=by kernel_rfl
theorem uG(i:Nat):leBytes (En (fun _=>0) i)=BB 64 0:=by
 have:En (fun _=>0) i=BB 8 0:=by
  apply EH
  ·simp [En]
  ·intro t h1 h2;rw [Jg,List.getElem_replicate]
 rw [this];decide
theorem VA(L i k:Nat)(hi:i<L)(hk:k<66):(madeCells LW (L*66))[66*i+k]? =LW[k]? :=by
 have hs:LW.size=66:=rfl;have:66*i+k<L*66:=by omega
 unfold madeCells;rw [Array.getElem?_map,hs];simp only [Array.getElem?_range,this,if_true,DK];rw [show(66*i+k)%66=k by omega,getElem!_pos LW k (by rw [hs];exact hk),Array.getElem?_eq_getElem (by rw [hs];exact hk)]
theorem BG.made{w:World}{d g L:Nat}{st:Int}(hd:CG w d 78 [.slice (some ⟨g,0,none⟩) L L,.bool false,.int .i64 (-1),.int .i64 st])(hne:g≠d)(hg:w.heap[g]? =some (.cells (madeCells LW (L*66)) 82 (0,0))):
 BG w d L (fun _=>0) M0 (fun _=>0) g (fun _=>none):=by
 refine⟨⟨st,hd⟩,by decide,hne,⟨_,hg,by rw [size_madeCells];omega,fun i hi k hk=> ?_,fun i hi=>⟨none,0,?_,?_,.inl ⟨rfl,rfl,rfl⟩⟩⟩,fun i hi h hh=>(by cases hh),fun i j hi hj hij h hh=>(by cases hh),fun i hi=>BK _⟩
 ·rw [VA L i k hi (by omega),uG,Iy,if_pos hk];show(BB 64 (Au .u8 0)++[Ac none 0 0,Au .i64 0]).toArray[k]? =_;rw [List.getElem?_toArray,DD (by simpa using hk),Iy,if_pos hk];rfl
 ·rw [VA L i 64 hi (by decide)];rfl
 ·rw [VA L i 65 hi (by decide)];rfl
theorem mr(L:Nat)(w:World)(hL0:1<=L)(hL:L<=1024):
 Calls Tryz.prog 26 #[.int .i64 (L:Int)] w fun e w'=>∃d g,e= .returned (Aw d)/\
  BG w' d L (fun _=>0) M0 (fun _=>0) g (fun _=>none)/\w.heap.size<=d/\w.heap.size<=g/\Below w.heap.size w w'/\w'.cell? ⟨d,3,none⟩=some (.int .i64 0):=by
 obtain⟨i0,z,hi,hz0,hz1,hz2,hz3⟩:∃i z,Tryz.prog.info? 82=some i/\i.zero=some z/\i.size=66/\i.bytes=96/\z.cells=LW:=by
  have h:=Tryz.uF;cases hh:Tryz.prog.info? 82 with
  | none=>rw [hh]at h;cases h
  | some i=>
    rw [hh]at h;cases hz:i.zero with
    | none=>simp [hz]at h
    | some z=>simp [hz]at h;exact⟨i,z,rfl,hz,h.2.1,h.2.2,h.1⟩
 go_enter Tryz.func26,Tryz.ntmps26
 go_wp2_with(at_make;refine wpList_make_full _ rfl _ _ 76 rfl w.heap.size 82 i0 z 66 Tryz.underlying76 hi hz0 hz1 .i64 .i64 _ _ L rfl rfl rfl rfl (by rw [hz2];omega) (by unfold maxLen;omega) (Ad _) ?_;intro w0 hown0 hgrow0)
 have hb0:Below w.heap.size w w0:=(Below.refl _ _).grown hgrow0 (Ad _) (by simp);rw [hz3]at hown0;have hg:w0.heap[w.heap.size]? =some (.cells (madeCells LW (L*66)) 82 (0,0)):=by
  rcases hown0.2 with⟨h,_⟩| ⟨g,cap,cur,h,_,hgg,_,_,hcs,ht⟩
  ·cases h
  ·simp only [Value.slice.injEq,Option.some.injEq,Addr.mk.injEq,and_true,true_and]at h;obtain⟨rfl,rfl⟩:=h;rw [List.take_of_length_le (by rw [Array.length_toList];omega)]at ht;rw [hgg,Array.toList_inj.1 ht]
 have hsz:w.heap.size<w0.heap.size:=(AB.1 hg).1;clear hgrow0 hown0;go_ret;refine⟨w0.heap.size,w.heap.size,rfl,BG.made (heap_alloc_new w0 _) (by omega) ((heap_alloc_old w0 _ hsz).trans hg),by omega,Ad _,hb0.alloc (by omega) _,CG.cell (heap_alloc_new w0 _) 3⟩
theorem yF(L:Nat)(w:World)(hL0:1<=L)(hL:L<=1024):
 Calls Tryz.prog 26 #[.int .i64 (L:Int)] w fun e w'=>∃d g,e= .returned (Aw d)/\
  BG w' d L (fun _=>0) M0 (fun _=>0) g (fun _=>none)/\w.heap.size<=d/\w.heap.size<=g/\Below w.heap.size w w':=by
 refine(mr L w hL0 hL).mono ?_;rintro e w'⟨d,g,h1,h2,h3,h4,h5,_⟩;exact⟨d,g,h1,h2,h3,h4,h5⟩
theorem mG(d:Nat)(off x:Int)(w:World):
 Calls Tryz.prog 145 #[Aw d,.int .i64 off,.int .u64 x] w fun e w'=>e= .returned (.func (.func 174) #[] #[Aw w.heap.size,Aw (w.heap.size+1),Aw (w.heap.size+1+1)])/\
  w'=((w.alloc (.cells #[Aw d] 24)).alloc (.cells #[.int .i64 off] 3)).alloc (.cells #[.int .u64 x] 28):=by
 go_enter Tryz.func145,Tryz.ntmps145;go_wp2;go_ret;exact⟨rfl,rfl⟩
theorem mJ(d:Nat)(off:Int)(w:World):
 Calls Tryz.prog 146 #[Aw d,.int .i64 off] w fun e w'=>e= .returned (.func (.func 176) #[] #[Aw w.heap.size,Aw (w.heap.size+1)])/\
  w'=(w.alloc (.cells #[Aw d] 24)).alloc (.cells #[.int .i64 off] 3):=by
 go_enter Tryz.func146,Tryz.ntmps146;go_wp2;go_ret;exact⟨rfl,rfl⟩
theorem dA(d L g off n:Nat)(v1 v2 v3:Value)(w:World)(hL0:1<=L)(hL:L<=1024)(h:CG w d 78 [.slice (some ⟨g,0,none⟩) L L,v1,v2,v3])(h8:off%8=0)(hn:off+8*n<=L*64):
 Calls Tryz.prog 74 #[Aw d,.int .i64 (off:Int),.int .i64 (n:Int)] w fun e w'=>e= .returned (.int .i64 0)/\w=w':=by
 have hs:=N8 d L g v1 v2 v3 w hL h;have HS:=Aa hs;obtain⟨N,hN⟩:∃N,N=L*64:=⟨_,rfl⟩;rw [<-hN]at hs HS hn;have t1:((N:Int)==0)=false:=by rw [beq_eq_false_iff_ne];omega
 have t2:decide ((off:Int)<0)=false:=decide_eq_false (by omega);have t3:decide ((N:Int)<(off:Int))=false:=decide_eq_false (by omega);have t4:((off:Int)%8 !=0)=false:=by
  have:(off:Int)%8=0:=by omega
  rw [this];rfl
 have t5:decide ((n:Int)<0)=false:=decide_eq_false (by omega);have t6:decide (((N:Int) - (off:Int))/8<(n:Int))=false:=decide_eq_false (by omega);have hN2:N<=65536:=by omega
 have hle:off<=N:=by omega
 clear hs h;go_enter Tryz.func74,Tryz.ntmps74
 go_wp2_with fail
 refine HS.out.mono ?_;rintro e w'⟨rfl,rfl⟩;clear HS hN
 go_wp2_with fail
 go_ret;exact⟨rfl,rfl⟩
theorem YP{Q:Int->World->Prop}(b1 b2 b3:Nat)(D:Value)(off x:Int)(w:World)(h1:w.cell? ⟨b1,0,none⟩=some D)(hD:∃A,D= .pointer A)(h2:w.cell? ⟨b2,0,none⟩=some (.int .i64 off))(h3:w.cell? ⟨b3,0,none⟩=some (.int .u64 x))
 (hc:Calls Tryz.prog 175 #[D,.int .i64 off,.int .u64 x] w fun e w'=>∃c:Int,e= .returned (.int .i64 c)/\Q c w'):
 Calls Tryz.prog 174 #[Aw b1,Aw b2,Aw b3] w fun e w'=>∃c:Int,e= .returned (.int .i64 c)/\Q c w':=by
 obtain⟨A,rfl⟩:=hD;have HC:=Aa hc;clear hc;go_enter Tryz.func174,Tryz.ntmps174
 go_wp2_with fail
 refine HC.out.mono ?_;rintro e w'⟨c,rfl,hq⟩
 go_wp2_with fail
 go_ret;exact⟨c,rfl,hq⟩
theorem YQ{Q:Int->World->Prop}(b1 b2:Nat)(D:Value)(off:Int)(w:World)(h1:w.cell? ⟨b1,0,none⟩=some D)(hD:∃A,D= .pointer A)(h2:w.cell? ⟨b2,0,none⟩=some (.int .i64 off))
 (hc:Calls Tryz.prog 177 #[D,.int .i64 off] w fun e w'=>∃c:Int,e= .returned (.int .i64 c)/\Q c w'):
 Calls Tryz.prog 176 #[Aw b1,Aw b2] w fun e w'=>∃c:Int,e= .returned (.int .i64 c)/\Q c w':=by
 obtain⟨A,rfl⟩:=hD;have HC:=Aa hc;clear hc;go_enter Tryz.func176,Tryz.ntmps176
 go_wp2_with fail
 refine HC.out.mono ?_;rintro e w'⟨c,rfl,hq⟩
 go_wp2_with fail
 go_ret;exact⟨c,rfl,hq⟩
theorem dB(A:Option Addr)(n c:Nat)(Fs:Nat->Nat)(iD caps:Nat->Array Value)(I:Nat->World->Prop)(J:World->Prop)(w:World)(hn:n<=1000000)(h0:I 0 w)
 (hf:∀k,k<n->∀W,(callFunc (Fs k) (iD k++caps k)).run Tryz.prog W= .ok (.enter (Fs k) (iD k++caps k)) W)
 (hrd:∀k W,I k W->Rd W A n ((D7 n).map fun k=>Aoo (.func (Fs k)) (iD k) (caps k)))
 (hst:∀k W,k<n->I k W->Calls Tryz.prog (Fs k) (iD k++caps k) W fun e w'=>∃c:Int,e= .returned (.int .i64 c)/\((c=0/\I (k+1) w')\/(c=12/\J w'))):
 Calls Tryz.prog 144 #[.slice A n c] w fun e w'=>∃c:Int,e= .returned (.int .i64 c)/\((c=0/\I n w')\/(c=12/\J w')):=by
 have HRD:=Aa hrd;have HST:=Aa hst;have HFF:=Aa hf;clear hrd hst hf;go_enter Tryz.func144,Tryz.ntmps144
 go_wp2_with fail
 go_loopw [8](fun i wr=>∃k:Nat,k<=n/\i= .int .i64 k/\I k wr)(fun i _=>n- (intOf i).toNat)
 case atStart=>exact⟨0,BK _,rfl,h0⟩
 case round=>
  obtain⟨k,hk,rfl,hI⟩:=hrel;by_cases hlt:k<n
  ·obtain⟨b,off,rfl,hb,hcl⟩:=(HRD.out k wr hI).2 (by omega);have hc:=hcl k hlt;simp only [BZ,List.getElem?_range hlt,DK]at hc;have hcall:=HST.out k wr hlt hI;have HC:=Aa hcall;have hcf:=HFF.out k hlt;clear hcl hcall h0
   go_wp2_with fail
   refine HC.out.mono ?_;rintro e w2⟨c,rfl,⟨rfl,hI2⟩| ⟨rfl,hJ⟩⟩
   ·clear HC hc hcf
    go_wp2_with fail
    go_roundw
    case rel=>exact⟨k+1,by omega,by go_num,hI2⟩
    case measure=>simp [intOf];omega
   ·clear HC hc hcf
    go_wp2_with fail
    go_ret;exact⟨12,rfl,.inr ⟨rfl,hJ⟩⟩
  ·have hkn:k=n:=by omega
   subst hkn
   go_wp2_with fail
   go_ret;exact⟨0,rfl,.inl ⟨rfl,hI⟩⟩
def Dv(w0:World)(d L g:Nat)(hb0:Nat->Option Nat)(ws:Nat->UInt64)(len:Mode)(mark:Nat->Nat)(W:World):Prop:=
 ∃hb,(∀b,Df d L g hb b->Df d L g hb0 b\/w0.heap.size<=b)/\BG W d L ws len mark g hb/\Touch (Df d L g hb0) w0 W
theorem Dv.start{w0 W:World}{d L g:Nat}{hb0:Nat->Option Nat}{ws:Nat->UInt64}{len:Mode}{mark:Nat->Nat}(h:BG w0 d L ws len mark g hb0)(hb:Below w0.heap.size w0 W):Dv w0 d L g hb0 ws len mark W:=
 ⟨hb0,fun _ h=> .inl h,h.below hb,Touch.of_below hb⟩
theorem Aem{w0 W:World}{d L g:Nat}{hb0:Nat->Option Nat}{ws:Nat->UInt64}{len:Mode}{mark:Nat->Nat}(h:Dv w0 d L g hb0 ws len mark W)(hL:L<=1024)(hu:len.lf≠0)(j:Nat)(x:UInt64)(hj:j<8*L)(hlen:len (j/8)<=1000000):
 Calls Tryz.prog 175 #[Aw d,.int .i64 ((8*j:Nat):Int),.int .u64 (x.toNat:Int)] W fun e w'=>e= .returned (.int .i64 0)/\
  ∃len':Mode,(len'=len\/len'=len.note (j/8) (8*(j%8),ws j))/\Dv w0 d L g hb0 (fun i=>if i=j then x else ws i) len'.tick mark w':=by
 obtain⟨hb,ho,hr,ht⟩:=h;by_cases he:ws j=x
 ·subst he;refine(uz d L ws len mark g hb j W hL hu hr hj).mono ?_;rintro e w'⟨rfl,hr2,ht2⟩;refine⟨rfl,len,.inl rfl,hb,ho,?_,ht.trans ht2 (fun b h=>ho b h)⟩;rw [show(fun i=>if i=j then ws j else ws i)=ws by funext i;by_cases e:i=j<;>simp [e]];exact hr2
 ·refine(Aa0 d L ws len mark g hb j x W hL hu hr hj he hlen).mono ?_;rintro e w'⟨rfl,g2,hg2,hr2,ht2⟩;refine⟨rfl,_,.inr rfl,_,fun b hb'=> ?_,hr2,ht.trans ht2 (fun b h=>ho b h)⟩;rcases hb' with h| h| ⟨i,hi,h⟩
  ·exact .inl (.inl h)
  ·exact .inl (.inr (.inl h))
  ·change(if i=j/8 then some g2 else hb i)=some b at h;by_cases e:i=j/8
   ·rw [if_pos e]at h;injection h with h
    subst h;rcases hg2 with hg2| hg2
    ·exact ho _ (.inr (.inr ⟨j/8,by omega,hg2⟩))
    ·exact .inr (Bg ht.size hg2)
   ·rw [if_neg e]at h;exact ho _ (.inr (.inr ⟨i,hi,h⟩))
theorem Aen{w0 W:World}{d L g:Nat}{hb0:Nat->Option Nat}{ws:Nat->UInt64}{len:Mode}{mark:Nat->Nat}(h:Dv w0 d L g hb0 ws len mark W)(hL:L<=1024)(hu:len.lf≠0)(off:Nat)(hj:off<64*L)(hlen:len (off/64)<=1000001):
 Calls Tryz.prog 177 #[Aw d,.int .i64 (off:Int)] W fun e w'=>e= .returned (.int .i64 0)/\
  Dv w0 d L g hb0 ws len.tick (fun k=>if k=off/64 then len (off/64)+1 else mark k) w':=by
 obtain⟨hb,ho,hr,ht⟩:=h;refine(Aa1 d L ws len mark g hb off W hL hu hr hj hlen).mono ?_;rintro e w'⟨rfl,hr2,ht2⟩;exact⟨rfl,hb,ho,hr2,ht.trans ht2 (fun b h=>ho b h)⟩
theorem Aeo{w0 W:World}{d L g:Nat}{hb0:Nat->Option Nat}{ws:Nat->UInt64}{len:Mode}{mark:Nat->Nat}(h:Dv w0 d L g hb0 ws len mark W)(hL:L<=1024)(hL0:0<L)(hu:len.lf≠0)
 (hm:∀i,i<L->mark i=0\/mark i=len i+1)(hlen:∀i,i<L->len i<=1000000):
 Calls Tryz.prog 147 #[Aw d] W fun e w'=>e= .returned (.int .i64 0)/\
  Dv w0 d L g hb0 ws (SS L len mark).tick (LV L mark) w':=by
 obtain⟨hb,ho,hr,ht⟩:=h;refine(Aa4 d L ws len mark g hb W hL hL0 hu hr hm hlen).mono ?_;rintro e w'⟨rfl,hr2,ht2⟩;refine⟨rfl,_,fun b hb'=> ?_,hr2,ht.trans ht2 (fun b h=>ho b h)⟩;rcases hb' with h| h| ⟨i,hi,h⟩
 ·exact .inl (.inl h)
 ·exact .inl (.inr (.inl h))
 ·unfold KL at h;by_cases e:i<L/\mark i≠0
  ·rw [if_pos e]at h;cases h
  ·rw [if_neg e]at h;exact ho _ (.inr (.inr ⟨i,hi,h⟩))
theorem Dv.iE{w0 W:World}{d L g:Nat}{hb0:Nat->Option Nat}{ws:Nat->UInt64}{len:Mode}{mark:Nat->Nat}(h:Dv w0 d L g hb0 ws len mark W)(hd:len.lf=0):∃v2 v3,CG W d 78 [.slice (some ⟨g,0,none⟩) L L,.bool true,v2,v3]:=by
 obtain⟨hb,ho,hr,ht⟩:=h;obtain⟨st,hbx⟩:=hr.box;rw [decide_eq_true hd]at hbx;exact⟨_,_,hbx⟩
theorem Aa5(ws:Nat->UInt64)(j:Nat):BQ ws j []=ws:=by
 funext i;unfold BQ;rw [if_neg (by simp)]
theorem uH(ws:Nat->UInt64)(j:Nat)(xs:List UInt64)(k:Nat)(hk:k<xs.length):(fun i=>if i=j+k then xs[k]else BQ ws j (xs.take k) i)=BQ ws j (xs.take (k+1)):=by
 funext i;unfold BQ;simp only [DC,MN (Nat.le_of_lt hk),MN (show k+1<=xs.length from hk),Bh,CS];by_cases e:i=j+k
 ·subst e;rw [if_pos rfl,if_pos (by omega),if_pos (by omega),Qv,Af hk];rfl
 ·rw [if_neg e];by_cases h:j<=i/\i<j+k
  ·rw [if_pos h,if_pos (by omega),if_pos (by omega),if_pos (by omega)]
  ·rw [if_neg h,if_neg (by omega)]
theorem uI(ws:Nat->UInt64)(j:Nat)(xs:List UInt64)(k q:Nat):BQ ws j (xs.take k) q=ws q\/BQ ws j (xs.take k) q=BQ ws j xs q:=by
 unfold BQ;simp only [DC,Bh,CS];by_cases h:j<=q/\q<j+min k xs.length
 ·right;rw [if_pos h,if_pos (by omega),if_pos (by omega)]
 ·left;rw [if_neg h]
theorem dC(ws:Nat->UInt64)(j:Nat)(x:UInt64):BQ ws j [x]=Gg ws j x:=by
 funext i;unfold BQ Gg;by_cases e:i=j
 ·subst e;rw [if_pos (by simp),if_pos rfl,WC];rfl
 ·rw [if_neg (by simp;omega),if_neg e]
def X9(lf:Int)(k:Nat):Int:=if lf<0 then lf else lf-k
theorem Aep(lf:Int):X9 lf 0=lf:=by unfold X9;split<;>omega
theorem Aif(k:Nat):X9 (-1) k= -1:=rfl
theorem YR{len:Mode}{lf:Int}{k:Nat}(h:len.lf=X9 lf k)(hu:len.lf≠0)(hk:lf<0\/(k:Int)<=lf):len.tick.lf=X9 lf (k+1)/\(lf<0\/((k+1:Nat):Int)<=lf):=by
 show(if 0<len.lf then len.lf-1 else len.lf)=_/\_;rw [h]at hu⊢;unfold X9 at hu⊢;by_cases h0:lf<0
 ·simp only [if_pos h0];rw [if_neg (by omega)];exact⟨rfl,.inl h0⟩
 ·simp only [if_neg h0]at hu⊢;rw [if_pos (by omega)];exact⟨by omega,.inr (by omega)⟩
def YS(ws:Nat->UInt64)(j n:Nat)(len:Mode):Prop:=∀i,∀c∈len.MJ i,∃t,t<8/\c.1=8*t/\j<=8*i+t/\8*i+t<j+n/\c.2=ws (8*i+t)
theorem uJ(ws:Nat->UInt64)(j n:Nat)(lf:Int):YS ws j n (MU lf):=fun _ _ h=>nomatch h
def Aeq(lf:Int)(W0:World)(d L g:Nat)(hb:Nat->Option Nat)(ws:Nat->UInt64)(j:Nat)(xs:List UInt64)(N:Nat)(W:World):Prop:=
 0<=lf/\lf<N/\∃(len:Mode)(XQ:Nat->UInt64)(mark:Nat->Nat),len.lf=0/\(∀i,len i<=1000000)/\YS ws j xs.length len/\(∀q,XQ q=ws q\/XQ q=BQ ws j xs q)/\Dv W0 d L g hb XQ len mark W
def Wrote(lf:Int)(N:Nat)(W0:World)(d L g:Nat)(hb:Nat->Option Nat)(ws:Nat->UInt64)(j:Nat)(xs:List UInt64)(c:Int)(W:World):Prop:=
 (c=0/\(lf<0\/(N:Int)<=lf)/\Dv W0 d L g hb (BQ ws j xs) (MU (X9 lf N)) (fun _=>0) W)\/(c=12/\Aeq lf W0 d L g hb ws j xs N W)
def allI(lf:Int)(W0:World)(d L g:Nat)(hb:Nat->Option Nat)(ws:Nat->UInt64)(j:Nat)(xs:List UInt64)(m k:Nat)(W:World):Prop:=
 (lf<0\/(k:Int)<=lf)/\
 if k<=xs.length then∃len:Mode,len.lf=X9 lf k/\(∀i,len i<=k)/\YS ws j xs.length len/\Dv W0 d L g hb (BQ ws j (xs.take k)) len (fun _=>0) W
 else if k<=xs.length+m then∃len:Mode,len.lf=X9 lf k/\(∀i,len i<=xs.length)/\YS ws j xs.length len/\Dv W0 d L g hb (BQ ws j xs) len (fun i=>if j/8<=i/\i<j/8+(k-xs.length)then len i+1 else 0) W
 else Dv W0 d L g hb (BQ ws j xs) (MU (X9 lf k)) (fun _=>0) W
theorem uK{lf:Int}{W0:World}{d L g:Nat}{hb:Nat->Option Nat}{ws:Nat->UInt64}{j:Nat}{xs:List UInt64}{m k:Nat}{W:World}(h:allI lf W0 d L g hb ws j xs m k W):Touch (Df d L g hb) W0 W:=by
 have h:=h.2;split at h
 ·obtain⟨_,_,_,_,_,_,_,t⟩:=h;exact t
 ·split at h
  ·obtain⟨_,_,_,_,_,_,_,t⟩:=h;exact t
  ·obtain⟨_,_,_,t⟩:=h;exact t
theorem YT{lf:Int}{k N:Nat}(h:X9 lf k=0)(hk:k<N):0<=lf/\lf<N:=by
 unfold X9 at h;split at h<;>omega
section
variable{lf:Int}{W0 W:World}{d L g:Nat}{hb:Nat->Option Nat}{ws:Nat->UInt64}{j:Nat}{xs:List UInt64}{m:Nat}
theorem Aa6(hL:L<=1024)(hj:j+xs.length<=8*L)(_:∀i,j<=i->i<j+xs.length->j/8<=i/8/\i/8<j/8+m){k:Nat}(hk:k<xs.length)(hn:xs.length<=100000)(h:allI lf W0 d L g hb ws j xs m k W):
 Calls Tryz.prog 175 #[Aw d,.int .i64 ((8*(j+k):Nat):Int),.int .u64 (xs[k].toNat:Int)] W fun e w'=>∃c:Int,e= .returned (.int .i64 c)/\((c=0/\allI lf W0 d L g hb ws j xs m (k+1) w')\/(c=12/\Aeq lf W0 d L g hb ws j xs (xs.length+m+1) w')):=by
 obtain⟨hk0,h⟩:=h;rw [if_pos (by omega)]at h;obtain⟨len,h0,h1,h2,h3⟩:=h;by_cases hu:len.lf=0
 ·obtain⟨v2,v3,hB⟩:=h3.iE hu;refine(YL d L g (8*(j+k)) _ v2 v3 W (by omega) hL hB).mono ?_;rintro e w'⟨rfl,rfl⟩;obtain⟨a1,a2⟩:=YT (N:=xs.length+m+1) (h0.symm.trans hu) (by omega);exact⟨12,rfl,.inr ⟨rfl,a1,a2,len,_,_,hu,fun i=>by have:=h1 i;omega,h2,fun q=>uI ws j xs k q,h3⟩⟩
 ·refine(Aem h3 hL hu (j+k) xs[k] (by omega) (by have:=h1 ((j+k)/8);omega)).mono ?_;rintro e w'⟨rfl,len',hl,hd⟩;rw [uH ws j xs k hk]at hd;have hold:BQ ws j (xs.take k) (j+k)=ws (j+k):=by unfold BQ;rw [if_neg (by simp;omega)]
  rw [hold]at hl;have hl':len'.lf=len.lf/\(∀i,len' i<=k+1)/\YS ws j xs.length len':=by
   rcases hl with rfl| rfl
   ·exact⟨rfl,fun i=>by have:=h1 i;omega,h2⟩
   ·refine⟨rfl,fun i=> ?_,fun i c hc=> ?_⟩
    ·rw [Mode.QS];split
     ·have:=h1 ((j+k)/8);omega
     ·have:=h1 i;omega
    ·change c∈(if i=(j+k)/8 then len.MJ ((j+k)/8)++[(8*((j+k)%8),ws (j+k))]else len.MJ i)at hc;split at hc
     ·rename_i e;rcases List.mem_append.1 hc with hc| hc
      ·rw [<-e]at hc;exact h2 i c hc
      ·rw [List.mem_singleton]at hc;subst hc;have e8:8*i+(j+k)%8=j+k:=by omega
       exact⟨(j+k)%8,by omega,rfl,by omega,by omega,by show ws (j+k)=_;rw [e8]⟩
     ·exact h2 i c hc
  obtain⟨g1,g2,g3⟩:=hl';obtain⟨b1,b2⟩:=YR (len:=len') (g1.trans h0) (by rw [g1];exact hu) hk0;refine⟨0,rfl,.inl ⟨rfl,b2,?_⟩⟩;rw [if_pos (by omega)];exact⟨len'.tick,b1,g2,g3,hd⟩
theorem Aa7(hL:L<=1024)(hj:j+xs.length<=8*L)(hm2:∀t,t<m->8*(j/8+t)<j+xs.length){t:Nat}(ht:t<m)(hn:xs.length<=100000)(off:Nat)(e8:off/64=j/8+t)(h:allI lf W0 d L g hb ws j xs m (xs.length+t) W):
 Calls Tryz.prog 177 #[Aw d,.int .i64 (off:Int)] W fun e w'=>∃c:Int,e= .returned (.int .i64 c)/\((c=0/\allI lf W0 d L g hb ws j xs m (xs.length+t+1) w')\/(c=12/\Aeq lf W0 d L g hb ws j xs (xs.length+m+1) w')):=by
 have hm:=hm2 t ht;obtain⟨hk0,h⟩:=h;have h':∃len:Mode,len.lf=X9 lf (xs.length+t)/\(∀i,len i<=xs.length)/\YS ws j xs.length len/\Dv W0 d L g hb (BQ ws j xs) len (fun i=>if j/8<=i/\i<j/8+t then len i+1 else 0) W:=by
  by_cases h0:t=0
  ·subst h0;rw [if_pos (by omega)]at h;obtain⟨len,z,a,b,c⟩:=h;refine⟨len,z,a,b,?_⟩;rw [Nat.add_zero,List.take_length]at c;have:(fun i=>if j/8<=i/\i<j/8+0 then len i+1 else 0)=fun _=>0:=by funext i;rw [if_neg (by omega)]
   rw [this];exact c
  ·rw [if_neg (by omega),if_pos (by omega),Qv]at h;exact h
 obtain⟨len,h0,h1,h2,h3⟩:=h';by_cases hu:len.lf=0
 ·obtain⟨v2,v3,hB⟩:=h3.iE hu;refine(YM d L g off v2 v3 W (by omega) hL hB).mono ?_;rintro e w'⟨rfl,rfl⟩;obtain⟨a1,a2⟩:=YT (N:=xs.length+m+1) (h0.symm.trans hu) (by omega);exact⟨12,rfl,.inr ⟨rfl,a1,a2,len,_,_,hu,fun i=>by have:=h1 i;omega,h2,fun q=> .inr rfl,h3⟩⟩
 ·refine(Aen h3 hL hu off (by omega) (by have:=h1 (off/64);omega)).mono ?_;rintro e w'⟨rfl,hd⟩;obtain⟨b1,b2⟩:=YR h0 hu hk0;refine⟨0,rfl,.inl ⟨rfl,b2,?_⟩⟩;rw [if_neg (by omega),if_pos (by omega)];refine⟨len.tick,b1,h1,h2,?_⟩;rw [e8]at hd;have:(fun k=>if k=j/8+t then len (j/8+t)+1 else if j/8<=k/\k<j/8+t then len k+1 else 0)=(fun i=>if j/8<=i/\i<j/8+(xs.length+t+1-xs.length)then len i+1 else 0):=by
   funext i;by_cases e:i=j/8+t
   ·subst e;rw [if_pos rfl,if_pos (by omega)]
   ·rw [if_neg e];by_cases h:j/8<=i/\i<j/8+t
    ·rw [if_pos h,if_pos (by omega)]
    ·rw [if_neg h,if_neg (by omega)]
  rw [this]at hd;exact hd
theorem Aa8(hL:L<=1024)(hL0:0<L)(hn:xs.length<=100000)(hm0:0<m)(hmL:j/8+m<=L)(hm:∀i,j<=i->i<j+xs.length->j/8<=i/8/\i/8<j/8+m)(h:allI lf W0 d L g hb ws j xs m (xs.length+m) W):
 Calls Tryz.prog 147 #[Aw d] W fun e w'=>∃c:Int,e= .returned (.int .i64 c)/\((c=0/\allI lf W0 d L g hb ws j xs m (xs.length+m+1) w')\/(c=12/\Aeq lf W0 d L g hb ws j xs (xs.length+m+1) w')):=by
 obtain⟨hk0,h⟩:=h;rw [if_neg (by omega),if_pos (by omega),Qv]at h;obtain⟨len,h0,h1,h2,h3⟩:=h;by_cases hu:len.lf=0
 ·obtain⟨v2,v3,hB⟩:=h3.iE hu;refine(YN d L g v2 v3 W (by omega) hL hB).mono ?_;rintro e w'⟨rfl,rfl⟩;obtain⟨a1,a2⟩:=YT (N:=xs.length+m+1) (h0.symm.trans hu) (by omega);exact⟨12,rfl,.inr ⟨rfl,a1,a2,len,_,_,hu,fun i=>by have:=h1 i;omega,h2,fun q=> .inr rfl,h3⟩⟩
 ·refine(Aeo h3 hL hL0 hu (fun i _=> ?_) (fun i _=>by have:=h1 i;omega)).mono ?_
  ·by_cases e:j/8<=i/\i<j/8+m
   ·right;show(if _ then _ else _)=_;rw [if_pos e]
   ·left;show(if _ then _ else _)=_;rw [if_neg e]
  rintro e w'⟨rfl,hd⟩;obtain⟨b1,b2⟩:=YR h0 hu hk0;refine⟨0,rfl,.inl ⟨rfl,b2,?_⟩⟩;rw [if_neg (by omega),if_neg (by omega)];have e1:(SS L len (fun i=>if j/8<=i/\i<j/8+m then len i+1 else 0)).tick=MU (X9 lf (xs.length+m+1)):=by
   rw [<-b1];show Mode.mk (fun i=>if i<L/\(fun i=>if j/8<=i/\i<j/8+m then len i+1 else 0) i≠0 then []else len.MJ i) _=Mode.mk (fun _=>[]) _;congr 1;funext i;by_cases e:j/8<=i/\i<j/8+m
   ·rw [if_pos ⟨by omega,by show(if _ then _ else _)≠0;rw [if_pos e];omega⟩]
   ·rw [if_neg (by rintro⟨_,h0⟩;exact h0 (if_neg e))];cases hc:len.MJ i with
    | nil=>rfl
    | cons c l=>
      obtain⟨t,t1,t2,t3,t4,t5⟩:=h2 i c (by rw [hc];exact Bq ..);have:=hm (8*i+t) t3 t4;exact absurd (show j/8<=i/\i<j/8+m by omega) e
  have e2:LV L (fun i=>if j/8<=i/\i<j/8+m then len i+1 else 0)=fun _=>0:=by
   funext i;unfold LV;by_cases e:i<L
   ·rw [if_pos e]
   ·rw [if_neg e];exact if_neg (by omega)
  rw [e1,e2]at hd;exact hd
theorem Dv.back{w:World}{XQ:Nat->UInt64}{len:Mode}{mark:Nat->Nat}(h:Dv W0 d L g hb XQ len mark W)(hB:Below w.heap.size w W0):Dv w d L g hb XQ len mark W:=by
 obtain⟨hb',ho,hr,ht⟩:=h;exact⟨hb',fun b h=>(ho b h).imp id (fun e=>Bg hB.size e),hr,(Touch.of_below hB).trans ht (fun b h=> .inl h)⟩
theorem Wrote.back{w:World}{N:Nat}{c:Int}(h:Wrote lf N W0 d L g hb ws j xs c W)(hB:Below w.heap.size w W0):Wrote lf N w d L g hb ws j xs c W:=by
 rcases h with⟨h1,h2,h3⟩| ⟨h1,h2,h3,len,XQ,mark,h4,h5,h6,h7,h8⟩
 ·exact .inl ⟨h1,h2,h3.back hB⟩
 ·exact .inr ⟨h1,h2,h3,len,XQ,mark,h4,h5,h6,h7,h8.back hB⟩
theorem Wrote.up{N:Nat}{c:Int}(h:Wrote (-1) N W0 d L g hb ws j xs c W):c=0/\Dv W0 d L g hb (BQ ws j xs) M0 (fun _=>0) W:=by
 rcases h with⟨h1,h2,h3⟩| ⟨_,h2,_⟩
 ·exact⟨h1,h3⟩
 ·omega
end
theorem UG(l:Array Value)(W:World):(callFunc 174 l).run Tryz.prog W= .ok (.enter 174 l) W:=by
 simp [callFunc,Tryz.func174,Tryz.f174]
theorem UH(l:Array Value)(W:World):(callFunc 176 l).run Tryz.prog W= .ok (.enter 176 l) W:=by
 simp [callFunc,Tryz.func176,Tryz.f176]
theorem UI(l:Array Value)(W:World):(callFunc 147 l).run Tryz.prog W= .ok (.enter 147 l) W:=by
 simp [callFunc,Tryz.func147,Tryz.f147]
structure Stp(d:Nat)(own:Nat->Prop)(j m:Nat)(xs:List UInt64)(W0:World)(I:Nat->World->Prop)(J:World->Prop):Prop where
 start:I 0 W0
 touch:∀k W,I k W->Touch own W0 W
 store:∀k(hk:k<xs.length)W,I k W->Calls Tryz.prog 175 #[Aw d,.int .i64 ((8*(j+k):Nat):Int),.int .u64 (xs[k].toNat:Int)] W fun e w'=>∃c:Int,e= .returned (.int .i64 c)/\((c=0/\I (k+1) w')\/(c=12/\J w'))
 flush:∀t,t<m->∀off:Nat,off/64=j/8+t->∀W,I (xs.length+t) W->Calls Tryz.prog 177 #[Aw d,.int .i64 (off:Int)] W fun e w'=>∃c:Int,e= .returned (.int .i64 c)/\((c=0/\I (xs.length+t+1) w')\/(c=12/\J w'))
 fence:∀W,I (xs.length+m) W->Calls Tryz.prog 147 #[Aw d] W fun e w'=>∃c:Int,e= .returned (.int .i64 c)/\((c=0/\I (xs.length+m+1) w')\/(c=12/\J w'))
theorem yG{lf:Int}{W0:World}{d L g:Nat}{hb:Nat->Option Nat}{ws:Nat->UInt64}{j:Nat}{xs:List UInt64}{m:Nat}(hL0:0<L)(hL:L<=1024)(h:BG W0 d L ws (MU lf) (fun _=>0) g hb)(hj:j+xs.length<=8*L)(hn:xs.length<=100000)(hm0:0<m)(hmL:j/8+m<=L)
 (hm:∀i,j<=i->i<j+xs.length->j/8<=i/8/\i/8<j/8+m)(hm2:∀t,t<m->8*(j/8+t)<j+xs.length):Stp d (Df d L g hb) j m xs W0 (allI lf W0 d L g hb ws j xs m) (Aeq lf W0 d L g hb ws j xs (xs.length+m+1))where
 start:=by
  refine⟨by omega,?_⟩;rw [if_pos (BK _)];refine⟨MU lf,(Aep lf).symm,fun _=>Ad _,uJ _ _ _ _,?_⟩;rw [List.take_zero,Aa5];exact Dv.start h (Below.refl _ _)
 touch _ _ hi:=uK hi
 store _ hk _ hi:=Aa6 hL hj hm hk hn hi
 flush _ ht off e _ hi:=Aa7 hL hj hm2 ht hn off e hi
 fence _ hi:=Aa8 hL hL0 hn hm0 hmL hm hi
theorem mM{W0:World}{d L g:Nat}{v2 v3:Value}(hL0:0<L)(hL:L<=1024)(hB:CG W0 d 78 [.slice (some ⟨g,0,none⟩) L L,.bool true,v2,v3])(own:Nat->Prop)(j m:Nat)(xs:List UInt64):Stp d own j m xs W0 (fun k W=>k=0/\W=W0) (fun W=>W=W0)where
 start:=⟨rfl,rfl⟩
 touch _ _ hi:=hi.2▸Touch.refl _ _
 store k _ W hi:=by
  obtain⟨_,rfl⟩:=hi;refine(YL d L g (8*(j+k)) _ v2 v3 W hL0 hL hB).mono ?_;rintro e w'⟨rfl,rfl⟩;exact⟨12,rfl,.inr ⟨rfl,rfl⟩⟩
 flush _ _ off _ W hi:=by
  obtain⟨_,rfl⟩:=hi;refine(YM d L g off v2 v3 W hL0 hL hB).mono ?_;rintro e w'⟨rfl,rfl⟩;exact⟨12,rfl,.inr ⟨rfl,rfl⟩⟩
 fence W hi:=by
  obtain⟨_,rfl⟩:=hi;refine(YN d L g v2 v3 W hL0 hL hB).mono ?_;rintro e w'⟨rfl,rfl⟩;exact⟨12,rfl,.inr ⟨rfl,rfl⟩⟩
theorem Aig{own:Nat->Prop}{I:Nat->World->Prop}{J:World->Prop}(d j:Nat)(x:UInt64)(w W0:World)(hown:∀b,w.heap.size<=b->¬own b)(hS:Stp d own j 1 [x] W0 I J)
 (b1 b2 b3 b4 b5 s:Nat)(T:TypeId)(hb1:w.heap.size<=b1)(hb2:w.heap.size<=b2)(hb3:w.heap.size<=b3)(hb4:w.heap.size<=b4)(hb5:w.heap.size<=b5)(hs:w.heap.size<=s)
 (c1:W0.cell? ⟨b1,0,none⟩=some (Aw d))(c2:W0.cell? ⟨b2,0,none⟩=some (.int .i64 ((8*j:Nat):Int)))(c3:W0.cell? ⟨b3,0,none⟩=some (.int .u64 (x.toNat:Int)))
 (c4:W0.cell? ⟨b4,0,none⟩=some (Aw d))(c5:W0.cell? ⟨b5,0,none⟩=some (.int .i64 ((8*j:Nat):Int)))
 (cs:W0.heap[s]? =some (.cells #[.func (.func 174) #[] #[Aw b1,Aw b2,Aw b3],.func (.func 176) #[] #[Aw b4,Aw b5],.func (.func 147) #[Aw d] #[]] T (0,0))):
 Calls Tryz.prog 144 #[.slice (some ⟨s,0,none⟩) 3 3] W0 fun e w'=>∃c:Int,e= .returned (.int .i64 c)/\((c=0/\I 3 w')\/(c=12/\J w')):=by
 have keep:∀{k W},I k W->∀(b:Nat)(v:Value),w.heap.size<=b->W0.cell? ⟨b,0,none⟩=some v->W.cell? ⟨b,0,none⟩=some v:=fun hi b v hle hc=>
  (Bz (a:=⟨b,0,none⟩) ((hS.touch _ _ hi).block b (Dz W0 ⟨b,0,none⟩ hc) (hown b hle))).trans hc
 refine(dB _ 3 3 (fun k=>if k=0 then 174 else if k=1 then 176 else 147)
  (fun k=>if k=2 then#[Aw d]else#[])
  (fun k=>if k=0 then#[Aw b1,Aw b2,Aw b3]else if k=1 then#[Aw b4,Aw b5]else#[])
  I J W0 (by decide) hS.start ?_ ?_ ?_)
 ·intro k hk W
  match k,hk with
  | 0,_=>exact UG _ W
  | 1,_=>exact UH _ W
  | 2,_=>exact UI _ W
 ·intro k W hi;have hcs:=((hS.touch _ _ hi).block s (AB.1 cs).1 (hown s hs)).trans cs;refine⟨rfl,fun _=>⟨s,0,rfl,(AB.1 hcs).1,fun t ht=> ?_⟩⟩;rw [Nat.zero_add,cell_of_row W s t _ T (0,0) hcs]
  match t,ht with
  | 0,_=>rfl
  | 1,_=>rfl
  | 2,_=>rfl
 ·intro k W hk hi
  match k,hk with
  | 0,_=>exact YP b1 b2 b3 _ _ _ W (keep hi _ _ hb1 c1) ⟨_,rfl⟩ (keep hi _ _ hb2 c2) (keep hi _ _ hb3 c3) (hS.store 0 (by simp) W hi)
  | 1,_=>
    exact YQ b4 b5 _ _ W (keep hi _ _ hb4 c4) ⟨_,rfl⟩ (keep hi _ _ hb5 c5) (hS.flush 0 (by decide) (8*j) (by omega) W hi)
  | 2,_=>exact hS.fence W hi
theorem yH{own:Nat->Prop}{I:World->Nat->World->Prop}{J:World->World->Prop}(d j:Nat)(x:UInt64)(w:World)(hown:∀b,own b->b<w.heap.size)(hS:∀W0,Below w.heap.size w W0->Stp d own j 1 [x] W0 (I W0) (J W0)):
 Calls Tryz.prog 95 #[Aw d,.int .i64 ((8*j:Nat):Int),.int .u64 (x.toNat:Int)] w fun e w'=>∃W0,Below w.heap.size w W0/\∃c:Int,e= .returned (.int .i64 c)/\((c=0/\I W0 3 w')\/(c=12/\J W0 w')):=by
 have YU:=Aa (fun b(h1:w.heap.size<=b)(h2:own b)=>Alh _ (Cf (hown b h2) h1));have HS:=Aa hS;clear hown hS;go_enter Tryz.func95,Tryz.ntmps95
 go_wp2_with fail
 refine(mG d _ _ w).mono ?_;rintro e w'⟨rfl,rfl⟩
 go_wp2_with fail
 refine(mJ d _ _).mono ?_;rintro e w'⟨rfl,rfl⟩
 go_wp2_with fail
 have hB:=((((((Below.refl w.heap.size w).alloc (Ad _) (.cells #[Aw d] 24)).alloc (by simp) (.cells #[.int .i64 (8*(j:Int))] 3)).alloc (by simp;omega) (.cells #[.int .u64 (x.toNat:Int)] 28)).alloc (by simp;omega) (.cells #[Aw d] 24)).alloc (by simp;omega) (.cells #[.int .i64 (8*(j:Int))] 3)).alloc (by simp;omega)
  (.cells #[.func (.func 174) #[] #[Aw w.heap.size,Aw (w.heap.size+1),Aw (w.heap.size+1+1)],.func (.func 176) #[] #[Aw (w.heap.size+1+1+1),Aw (w.heap.size+1+1+1+1)],.func (.func 147) #[Aw d] #[]] 249)
 refine(Aig d j x w _ YU.out (HS.out _ hB) w.heap.size (w.heap.size+1) (w.heap.size+1+1) (w.heap.size+1+1+1) (w.heap.size+1+1+1+1) (w.heap.size+1+1+1+1+1) 249 (by omega) (by omega) (by omega) (by omega) (by omega) (by omega) ((CY _ _ _ (by first| (simp;done)| (simp;omega))).trans<| ((CY _ _ _ (by first| (simp;done)| (simp;omega))).trans<| ((CY _ _ _ (by first| (simp;done)| (simp;omega))).trans<| ((CY _ _ _ (by first| (simp;done)| (simp;omega))).trans<| ((CY _ _ _ (by first| (simp;done)| (simp;omega))).trans<| by simp))))) (by simp [CY,Ja]) (by simp [CY,Ja]) (by simp [CY,Ja]) (by simp [CY,Ja]) (by rw [show w.heap.size+1+1+1+1+1=((((((w.alloc (.cells #[Aw d] 24)).alloc (.cells #[.int .i64 (8*(j:Int))] 3)).alloc (.cells #[.int .u64 (x.toNat:Int)] 28)).alloc (.cells #[Aw d] 24)).alloc (.cells #[.int .i64 (8*(j:Int))] 3))).heap.size by simp];exact heap_alloc_new _ _)).mono ?_;rintro e w'⟨c,rfl,hp⟩;have HP:=Aa (⟨_,hB,c,rfl,hp⟩:∃W0,Below w.heap.size w W0/\∃c':Int,Ending.returned (.int .i64 c)= .returned (.int .i64 c')/\((c'=0/\I W0 3 w')\/(c'=12/\J W0 w')));clear hp hB YU HS
 go_wp2_with fail
 go_ret;exact HP.out
theorem mO(lf:Int)(d L g:Nat)(hb:Nat->Option Nat)(ws:Nat->UInt64)(j:Nat)(x:UInt64)(w:World)(hL0:0<L)(hL:L<=1024)(h:BG w d L ws (MU lf) (fun _=>0) g hb)(hj:j<8*L):
 Calls Tryz.prog 95 #[Aw d,.int .i64 ((8*j:Nat):Int),.int .u64 (x.toNat:Int)] w fun e w'=>∃c:Int,e= .returned (.int .i64 c)/\Wrote lf 3 w d L g hb ws j [x] c w':=by
 refine(yH d j x w h.lt (fun W0 hB=>yG (m:=1) hL0 hL (h.below hB) (xs:=[x]) (by simp only [BJ,Dt];omega) (by simp) (by decide) (by omega) (fun i h1 h2=>by simp only [BJ,Dt]at h2;omega) (fun t ht=>by simp only [BJ,Dt];omega))).mono ?_;rintro e w'⟨W0,hB,c,rfl,hi⟩;refine⟨c,rfl,Wrote.back (W0:=W0) ?_ hB⟩;rcases hi with⟨h1,hi⟩| ⟨h1,hi⟩
 ·refine .inl ⟨h1,hi.1,?_⟩;have:=hi.2;rw [if_neg (by simp),if_neg (by simp)]at this;exact this
 ·exact .inr ⟨h1,hi⟩
theorem Aer(d L g j:Nat)(x:UInt64)(v2 v3:Value)(_:Nat->Prop)(w:World)(hL0:0<L)(hL:L<=1024)(hB:CG w d 78 [.slice (some ⟨g,0,none⟩) L L,.bool true,v2,v3]):
 Calls Tryz.prog 95 #[Aw d,.int .i64 ((8*j:Nat):Int),.int .u64 (x.toNat:Int)] w fun e w'=>e= .returned (.int .i64 12)/\Below w.heap.size w w':=by
 refine(yH (own:=fun _=>False) d j x w (fun _ h=>h.elim) (fun W0 hb=>mM hL0 hL (hB.below hb hB.lt) _ j 1 [x])).mono ?_;rintro e w'⟨W0,hb,c,rfl,⟨_,h1,_⟩| ⟨rfl,rfl⟩⟩
 ·exact absurd h1 (by decide)
 ·exact⟨rfl,hb⟩
theorem Aih(d L g:Nat)(hb:Nat->Option Nat)(ws:Nat->UInt64)(j:Nat)(x:UInt64)(w:World)(hL0:0<L)(hL:L<=1024)(h:BG w d L ws M0 (fun _=>0) g hb)(hj:j<8*L):
 Calls Tryz.prog 95 #[Aw d,.int .i64 ((8*j:Nat):Int),.int .u64 (x.toNat:Int)] w fun e w'=>e= .returned (.int .i64 0)/\
  Dv w d L g hb (fun i=>if i=j then x else ws i) M0 (fun _=>0) w':=by
 refine(mO (-1) d L g hb ws j x w hL0 hL h hj).mono ?_;rintro e w'⟨c,rfl,hp⟩;obtain⟨rfl,hd⟩:=hp.up;rw [dC]at hd;exact⟨rfl,hd⟩
def OM(ws:Nat->UInt64)(j n:Nat):List UInt64:=(D7 n).map fun t=>ws (j+t)
def I5(ws:Nat->UInt64)(j n k:Nat):List UInt64:=(D7 n).map fun t=>if t<k then ws (j+t)else 0
theorem aU(ws:Nat->UInt64)(j n:Nat):I5 ws j n 0=BB n 0:=by
 apply EH<;>simp [I5]
theorem iF(ws:Nat->UInt64)(j n:Nat):I5 ws j n n=OM ws j n:=by
 apply EH
 ·simp [I5,OM]
 ·intro t h1 h2;have:t<n:=by simpa [I5]using h1
  simp [I5,OM,this]
theorem iG(ws:Nat->UInt64)(j n k:Nat):((I5 ws j n k).map wv).set k (wv (ws (j+k)))=(I5 ws j n (k+1)).map wv:=by
 rw [<-List.map_set];congr 1;apply EH
 ·simp [I5]
 ·intro t h1 h2;rw [MO];by_cases e:k=t
  ·subst e;rw [if_pos rfl];simp [I5]
  ·rw [if_neg e];have:(t<k+1)=(t<k):=by apply propext;omega
   simp [I5,this]
theorem XR(d L:Nat)(ws:Nat->UInt64)(len:Mode)(mark:Nat->Nat)(g:Nat)(hb:Nat->Option Nat)(j n:Nat)(w:World)(hL0:0<L)(hL:L<=1024)(hu:len.lf≠0)(h:BG w d L ws len mark g hb)(hj:j+n<=8*L):
 Calls Tryz.prog 33 #[Aw d,.int .i64 ((8*j:Nat):Int),.int .i64 (n:Int)] w fun e w'=>∃v,e= .returned (.tuple #[v,.int .i64 0])/\
  w'.ownsRow w.heap.size 28 1 v n ((OM ws j n).map wv)/\Below w.heap.size w w':=by
 obtain⟨i0,hi,hz0,hz1,hz2⟩:=info_parts Tryz.Je.hi;obtain⟨st,hbx⟩:=h.box;have HW:=Aa (dA d L g (8*j) n _ _ _ w (by omega) hL hbx (by omega) (by omega));have H:=Aa h;clear h hbx;go_enter Tryz.func33,Tryz.ntmps33
 go_wp2_with fail
 refine HW.out.mono ?_;rintro e w'⟨rfl,rfl⟩;clear HW
 go_wp2_with(at_make;refine wpList_make_full _ rfl _ _ 91 rfl w.heap.size 28 i0 (.int .u64 0) 1 Tryz.underlying91 hi hz0 hz1 .i64 .i64 _ _ n rfl rfl rfl rfl (by rw [hz2];omega) (by unfold maxLen;omega) (Ad _) ?_;intro w0 hown0 hgrow0)
 rw [KP,<-aU ws j n]at hown0;have hb0:Below w.heap.size w w0:=(Below.refl _ _).grown hgrow0 (Ad _) (by simp);clear hgrow0
 go_loopw [24](fun i wr=>∃k:Nat,k<=n/\i= .int .i64 k/\wr.ownsRow w.heap.size 28 1 (.slice (some ⟨w.heap.size,0,none⟩) n n) n ((I5 ws j n k).map wv)/\Below w.heap.size w wr)(fun i _=>n- (intOf i).toNat)
 case atStart=>exact⟨0,BK _,rfl,hown0,hb0⟩
 case round=>
  obtain⟨k,hk,rfl,hown,hbr⟩:=hrel;clear hown0 hb0;by_cases hlt:k<n
  ·have HL:=Aa (UD d L ws len mark g hb (j+k) wr hL hu (H.out.below hbr) (by omega));obtain⟨⟨v0,hv0⟩,hf0⟩:=Sv hown hlt;have hown2:=NZ (u:=wv (ws (j+k))) hown hlt;rw [iG]at hown2;have HO:=Aa hown2;have hb2:=hbr.setCell (p:=⟨w.heap.size,k,none⟩) (Ad _) (wv (ws (j+k)));have HB:=Aa hb2;clear hown hown2 hb2 hbr
   go_wp2_with fail
   rw [show(8*(j:Int)+8*(k:Int))=((8*(j+k):Nat):Int)by omega];refine HL.out.mono ?_;rintro e w2⟨rfl,rfl⟩;clear HL
   go_wp2_with fail
   go_roundw
   case rel=>exact⟨k+1,by omega,by go_num,HO.out,HB.out⟩
   case measure=>simp [intOf];omega
  ·have hkn:k=n:=by omega
   subst hkn;rw [iF]at hown
   go_wp2_with fail
   go_ret2;exact⟨_,rfl,hown,hbr⟩
def UJ(w:World)(B d:Nat)(v:Value)(j:Nat)(x:UInt64):Prop:=
 ∃b1 b2 b3,v= .func (.func 174) #[] #[Aw b1,Aw b2,Aw b3]/\B<=b1/\B<=b2/\B<=b3/\
  w.heap[b1]? =some (.cells #[Aw d] 24 (0,0))/\w.heap[b2]? =some (.cells #[.int .i64 ((8*j:Nat):Int)] 3 (0,0))/\w.heap[b3]? =some (.cells #[.int .u64 (x.toNat:Int)] 28 (0,0))
def YV(w:World)(B d:Nat)(v:Value)(off:Nat):Prop:=
 ∃b1 b2,v= .func (.func 176) #[] #[Aw b1,Aw b2]/\B<=b1/\B<=b2/\
  w.heap[b1]? =some (.cells #[Aw d] 24 (0,0))/\w.heap[b2]? =some (.cells #[.int .i64 (off:Int)] 3 (0,0))
def Qx(T:TypeId)(w w':World):Prop:=∀(b:Nat)(cs:Array Value)(t:TypeId)(fz:Nat×Nat),t≠T->w.heap[b]? =some (.cells cs t fz)->w'.heap[b]? =some (.cells cs t fz)
theorem Qx.below{T:TypeId}{w w':World}(h:Below w.heap.size w w'):Qx T w w':=fun b _ _ _ _ e=>(h.block b (AB.1 e).1).trans e
theorem UJ.stays{w w':World}{B d:Nat}{v:Value}{j:Nat}{x:UInt64}(h:UJ w B d v j x)(k:Qx 249 w w'):UJ w' B d v j x:=by
 obtain⟨b1,b2,b3,e,h1,h2,h3,c1,c2,c3⟩:=h;exact⟨b1,b2,b3,e,h1,h2,h3,k _ _ _ _ (by decide) c1,k _ _ _ _ (by decide) c2,k _ _ _ _ (by decide) c3⟩
theorem YV.stays{w w':World}{B d:Nat}{v:Value}{off:Nat}(h:YV w B d v off)(k:Qx 249 w w'):YV w' B d v off:=by
 obtain⟨b1,b2,e,h1,h2,c1,c2⟩:=h;exact⟨b1,b2,e,h1,h2,k _ _ _ _ (by decide) c1,k _ _ _ _ (by decide) c2⟩
theorem Tryz.iH:LK Tryz.prog 284 249 .nilFunc 8:=⟨Tryz.underlying284,by kernel_rfl,rfl⟩
theorem Qx.kept{T:TypeId}{w w':World}{base n:Nat}{v:Value}{xs:List Value}(ho:w.ownsRow base T 1 v n xs)(h:Kept w w' v.ownBlock):Qx T w w':=by
 intro b cs t fz ht e;refine(h.2 b (AB.1 e).1 (fun hb=> ?_)).trans e;rcases ho.2 with⟨rfl,_⟩| ⟨g,cap,cur,rfl,_,hg,_⟩
 ·cases hb
 ·have:b=g:=by simpa [Value.ownBlock]using hb
  subst this;rw [e]at hg;injection hg with hg
  injection hg with _ h2 _
  exact ht h2
theorem aV(B d j:Nat)(x:UInt64)(w:World)(hB:B<=w.heap.size):
 Calls Tryz.prog 145 #[Aw d,.int .i64 ((8*j:Nat):Int),.int .u64 (x.toNat:Int)] w fun e w'=>∃v,e= .returned v/\UJ w' B d v j x/\v.oneCell'=true/\Below w.heap.size w w':=by
 refine(mG d _ _ w).mono ?_;rintro e w'⟨rfl,rfl⟩;have s1:(w.alloc (.cells #[Aw d] 24)).heap.size=w.heap.size+1:=by simp
 have s2:((w.alloc (.cells #[Aw d] 24)).alloc (.cells #[.int .i64 ((8*j:Nat):Int)] 3)).heap.size=w.heap.size+1+1:=by simp
 refine⟨_,rfl,⟨w.heap.size,w.heap.size+1,w.heap.size+1+1,rfl,hB,by omega,by omega,?_,?_,?_⟩,rfl,(((Below.refl _ _).alloc (Ad _) _).alloc (by omega) _).alloc (by omega) _⟩
 ·exact(heap_alloc_old _ _ (by omega)).trans ((heap_alloc_old _ _ (by omega)).trans (heap_alloc_new _ _))
 ·refine(heap_alloc_old _ _ (by omega)).trans ?_;rw [<-s1];exact heap_alloc_new _ _
 ·rw [<-s2];exact heap_alloc_new _ _
theorem aW(B d off:Nat)(w:World)(hB:B<=w.heap.size):
 Calls Tryz.prog 146 #[Aw d,.int .i64 (off:Int)] w fun e w'=>∃v,e= .returned v/\YV w' B d v off/\v.oneCell'=true/\Below w.heap.size w w':=by
 refine(mJ d _ w).mono ?_;rintro e w'⟨rfl,rfl⟩;have s1:(w.alloc (.cells #[Aw d] 24)).heap.size=w.heap.size+1:=by simp
 refine⟨_,rfl,⟨w.heap.size,w.heap.size+1,rfl,hB,by omega,?_,?_⟩,rfl,((Below.refl _ _).alloc (Ad _) _).alloc (by omega) _⟩
 ·exact(heap_alloc_old _ _ (by omega)).trans (heap_alloc_new _ _)
 ·rw [<-s1];exact heap_alloc_new _ _
def YW:Value->Array Value
 | .func _ _ c=>c
 | _=> #[]
theorem uM{own:Nat->Prop}{I:Nat->World->Prop}{J:World->Prop}(d j m:Nat)(xs:List UInt64)(w W0:World)(hown:∀b,w.heap.size<=b->¬own b)(hT:Stp d own j m xs W0 I J)(hx:xs.length+m<1000000)
 (S:List Value)(hS1:∀t v x,t<xs.length->S[t]? =some v->xs[t]? =some x->UJ W0 w.heap.size d v (j+t) x)(hS2:∀t v,t<m->S[xs.length+t]? =some v->YV W0 w.heap.size d v (64*(j/8+t)))
 (hS3:S[xs.length+m]? =some (.func (.func 147) #[Aw d] #[]))(hSl:S.length=xs.length+m+1)
 (A:Option Addr)(c:Nat)(hrow:Rd W0 A (xs.length+m+1) S)(hA:∀a,A=some a->w.heap.size<=a.block):
 Calls Tryz.prog 144 #[.slice A ((xs.length+m+1:Nat)) c] W0 fun e w'=>∃c:Int,e= .returned (.int .i64 c)/\((c=0/\I (xs.length+m+1) w')\/(c=12/\J w')):=by
 have keep:∀{k W},I k W->∀(b:Nat)(cs:Array Value)(t:TypeId),w.heap.size<=b->W0.heap[b]? =some (.cells cs t (0,0))->W.heap[b]? =some (.cells cs t (0,0)):=fun hi b cs t hle hc=>
  ((hT.touch _ _ hi).block b (AB.1 hc).1 (hown b hle)).trans hc
 have cellOf:∀{W:World}{b:Nat}{v:Value}{t:TypeId},W.heap[b]? =some (.cells #[v] t (0,0))->W.cell? ⟨b,0,none⟩=some v:=fun hc=>by rw [cell_of_row _ _ 0 _ _ (0,0) hc];rfl
 refine(dB A (xs.length+m+1) c (fun k=>if k<xs.length then 174 else if k<xs.length+m then 176 else 147)
  (fun k=>if k=xs.length+m then#[Aw d]else#[]) (fun k=>YW (S.getD k .nilFunc)) I J W0 (by omega) hT.start ?_ ?_ ?_)
 ·intro k hk W;by_cases h1:k<xs.length
  ·simp only [if_pos h1];exact UG _ W
  ·by_cases h2:k<xs.length+m
   ·simp only [if_neg h1,if_pos h2];exact UH _ W
   ·simp only [if_neg h1,if_neg h2];exact UI _ W
 ·intro k W hi;have hr:Rd W A (xs.length+m+1) S:=hrow.touch (hT.touch _ _ hi) (fun a e ho=>hown _ (hA a e) ho);have hSe:S=(D7 (xs.length+m+1)).map fun k=>Aoo (.func (if k<xs.length then 174 else if k<xs.length+m then 176 else 147)) (if k=xs.length+m then#[Aw d]else#[]) (YW (S.getD k .nilFunc)):=by
   apply EH
   ·simp [hSl]
   ·intro t h1 h2;rw [List.getElem_map,List.getElem_range,Bh,Af h1];by_cases c1:t<xs.length
    ·obtain⟨b1,b2,b3,e,_⟩:=hS1 t _ _ c1 (Af h1) (Af c1);rw [if_pos c1,if_neg (by omega),e];rfl
    ·by_cases c2:t<xs.length+m
     ·obtain⟨b1,b2,e,_⟩:=hS2 (t-xs.length) S[t] (by omega) (by rw [show xs.length+(t-xs.length)=t by omega];exact Af h1);rw [if_neg c1,if_pos c2,if_neg (by omega),e];rfl
     ·have c3:t=xs.length+m:=by omega
      subst c3;rw [Af h1]at hS3;injection hS3 with hS3
      rw [if_neg c1,if_neg c2,if_pos rfl,hS3];rfl
  rw [<-hSe];exact hr
 ·intro k W hk hi;by_cases c1:k<xs.length
  ·obtain⟨b1,b2,b3,e,l1,l2,l3,k1,k2,k3⟩:=hS1 k _ _ c1 (Af (by omega)) (Af c1);simp only [if_pos c1,if_neg (show¬k=xs.length+m by omega),Bh,Af (show k<S.length by omega),OD,e,YW];exact YP b1 b2 b3 _ _ _ W (cellOf (keep hi _ _ _ l1 k1)) ⟨_,rfl⟩ (cellOf (keep hi _ _ _ l2 k2)) (cellOf (keep hi _ _ _ l3 k3)) (hT.store k c1 W hi)
  ·by_cases c2:k<xs.length+m
   ·obtain⟨b1,b2,e,l1,l2,k1,k2⟩:=hS2 (k-xs.length) S[k] (by omega) (by rw [show xs.length+(k-xs.length)=k by omega];exact Af (by omega));simp only [if_neg c1,if_pos c2,if_neg (show¬k=xs.length+m by omega),Bh,Af (show k<S.length by omega),OD,e,YW];have:=hT.flush (k-xs.length) (by omega) (64*(j/8+(k-xs.length))) (by omega) W (by rw [show xs.length+(k-xs.length)=k by omega];exact hi);rw [show xs.length+(k-xs.length)+1=k+1 by omega]at this;exact YQ b1 b2 _ _ W (cellOf (keep hi _ _ _ l1 k1)) ⟨_,rfl⟩ (cellOf (keep hi _ _ _ l2 k2)) this
   ·have c3:k=xs.length+m:=by omega
    subst c3;simp only [if_neg c1,if_neg c2,if_true,Bh,hS3,OD,YW];exact hT.fence W hi
theorem YX {own : Nat -> Prop} {I : World -> Nat -> World -> Prop} {J : World -> World -> Prop} (d L g : Nat) (v1 v2 v3 : Value) (j n c : Nat) (A : Option Addr) (xs : List UInt64) (w : World) (hL0 : 0 < L) (hL : L <= 1024) (hbx : CG w d 78 [.slice (some ⟨g, 0, none⟩) L L, v1, v2, v3]) (hown : ∀ b, own b -> b < w.heap.size) (hj : j + n <= 8 * L) (hn0 : 0 < n) (hx : Ws w A n xs)
    (hS : ∀ W0, Below w.heap.size w W0 -> Stp d own j ((j + n - 1) / 8 - j / 8 + 1) xs W0 (I W0) (J W0)) :
    Calls Tryz.prog 139 #[Aw d, .int .i64 ((8 * j : Nat) : Int), .slice A n c] w fun e w' => ∃ W0, Below w.heap.size w W0 /\ ∃ c : Int, e = .returned (.int .i64 c) /\ ((c = 0 /\ I W0 (n + ((j + n - 1) / 8 - j / 8 + 1) + 1) w') \/ (c = 12 /\ J W0 w')) := by
  have YU := Aa (fun b (h1 : w.heap.size <= b) (h2 : own b) => Alh _ (Cf (hown b h2) h1))
  have HW := Aa (dA d L g (8 * j) n _ _ _ w (by omega) hL hbx (by omega) (by omega))
  have hlen := hx.len
  have HX := Aa hx
  obtain ⟨m, hmm, hm0, hm1, hm2⟩ : ∃ m, m = (j + n - 1) / 8 - j / 8 + 1 /\ 0 < m /\ (∀ i, j <= i -> i < j + n -> j / 8 <= i / 8 /\ i / 8 < j / 8 + m) /\ (∀ t, t < m <-> 8 * (j / 8 + t) < j + n) := ⟨(j + n - 1) / 8 - j / 8 + 1, rfl, by omega, fun i h1 h2 => by omega, fun t => by omega⟩
  have t9 : decide ((0 : Int) < (n : Int)) = true := decide_eq_true (by omega)
  rw [<- hmm] at hS ⊢
  have H := Aa hS
  clear hmm hS
  have yI := Aa hm1
  have XA := Aa hm2
  clear hbx hx hm1 hm2 hown
  go_enter Tryz.func139, Tryz.ntmps139
  go_wp2_with fail
  refine HW.out.mono ?_
  rintro e w' ⟨rfl, rfl⟩
  clear HW
  go_wp2_with fail
  have hB0 : Below w.heap.size w (w.alloc (.cells #[] 249)) := (Below.refl _ _).alloc (Ad _) _
  have hO0 : (w.alloc (.cells #[] 249)).ownsRow w.heap.size 249 1 (.slice (some ⟨w.heap.size, 0, none⟩) 0 0) 0 [] := World.ownsRow_made w #[] 0 (Ad _) (by decide) rfl
  go_loopw [8, 24] (fun v i wr => ∃ k S, k <= n /\ i = .int .i64 (k : Nat) /\ wr.ownsRow w.heap.size 249 1 v k S /\ (∀ t v x, S[t]? = some v -> xs[t]? = some x -> UJ wr w.heap.size d v (j + t) x) /\ Below w.heap.size w wr) (fun _ i _ => n - (intOf i).toNat)
  case atStart => exact ⟨0, [], BK _, rfl, hO0, by simp, hB0⟩
  case round =>
    obtain ⟨k, S, hk, rfl, hO, hS, hB⟩ := hrel
    clear hO0 hB0
    by_cases hlt : k < n
    · obtain ⟨hkl, b0, o0, rfl, hb0, hc0⟩ := (HX.out.below hB).at hlt
      go_wp2_with fail
      rw [show (8 * (j : Int) + 8 * (k : Int)) = ((8 * (j + k) : Nat) : Int) by omega]
      refine (aV w.heap.size d (j + k) xs[k] wr hB.size).mono ?_
      rintro e w2 ⟨v2, rfl, hs2, h1, hB2⟩
      obtain ⟨F, cap, rfl⟩ : ∃ F cap, v2 = .func F #[] cap := by obtain ⟨_, _, _, e, _⟩ := hs2; exact ⟨_, _, e⟩
      have hO2 := own_below hO hB2
      have hb2 : Below w.heap.size w w2 := hB.trans (hB2.mono hB.size)
      have hS2 : ∀ t v x, S[t]? = some v -> xs[t]? = some x -> UJ w2 w.heap.size d v (j + t) x := fun t v x h1 h2 => (hS t v x h1 h2).stays (Qx.below hB2)
      have HS2 := Aa hS2
      have hSl : S.length = k := by simpa using hO.1
      clear hS hB hO hB2 hS2
      go_wp2_with (at_builtin; go_loud (refine Iz rfl (.tmp 29) (.tmp 37) 284 rfl Tryz.iH w2 w.heap.size u8 k S [.func F #[] cap] rfl hO2 rfl rfl rfl rfl 1 1 rfl rfl (by simpa using h1) (by simp; omega) (by decide) hb2.size ?_); intro v3 w3 hO3 hB3 hK3)
      have hst := Qx.kept hO2 hK3
      go_roundw
      case rel =>
        refine ⟨k + 1, S ++ [.func F #[] cap], by omega, by go_num, hO3, fun t v x h1 h2 => ?_, hb2.trans hB3⟩
        by_cases e : t < S.length
        · rw [DD e] at h1
          exact (HS2.out t v x h1 h2).stays hst
        · have ht : t = k := by
            have := (List.getElem?_eq_some_iff.1 h1).1
            simp at this; omega
          subst ht
          rw [Ew (by omega), hSl, WC] at h1
          rw [Af hkl] at h2
          simp at h1 h2
          subst h1 h2
          exact hs2.stays hst
      case measure => simp [intOf]; omega
    · have hkn : k = n := by omega
      subst hkn
      have HS := Aa hS
      have hSl : S.length = k := by simpa using hO.1
      clear hS
      go_wp2_with fail
      rw [show (8 * (j : Int) / 64 * 64) = ((64 * (j / 8 + 0) : Nat) : Int) by omega]
      go_loopw [8, 12] (fun v i w5 => ∃ t T, t <= m /\ i = .int .i64 ((64 * (j / 8 + t) : Nat) : Int) /\ w5.ownsRow w.heap.size 249 1 v (k + t) T /\ (∀ a v x, a < k -> T[a]? = some v -> xs[a]? = some x -> UJ w5 w.heap.size d v (j + a) x) /\ (∀ a v, a < t -> T[k + a]? = some v -> YV w5 w.heap.size d v (64 * (j / 8 + a))) /\ Below w.heap.size w w5) (fun _ i _ => 8 * (j + k) + 64 - (intOf i).toNat)
      case atStart => exact ⟨0, S, BK _, rfl, hO, fun a v x _ h1 h2 => HS.out a v x h1 h2, fun a v h => absurd h (by omega), hB⟩
      case round =>
        obtain ⟨t, T, htm, rfl, hO5, hT1, hT2, mQ⟩ := hrel
        clear hO hB HS hSl
        have hTl : T.length = k + t := by simpa using hO5.1
        have hkt : k + t <= 20000 := by
          have := XA.out (t - 1)
          omega
        by_cases hlt2 : t < m
        · have h8 := (XA.out t).1 hlt2
          have t1 : decide (((64 * (j / 8 + t) : Nat) : Int) < 8 * (j : Int) + 8 * (k : Int)) = true := decide_eq_true (by omega)
          generalize hat : 64 * (j / 8 + t) = at_ at *
          have HT1 := Aa hT1
          have HT2 := Aa hT2
          clear hT1 hT2
          go_wp2_with fail
          refine (aW w.heap.size d at_ wr mQ.size).mono ?_
          rintro e w2 ⟨v2, rfl, hs2, h1, hB2⟩
          obtain ⟨F, cap, rfl⟩ : ∃ F cap, v2 = .func F #[] cap := by obtain ⟨_, _, e, _⟩ := hs2; exact ⟨_, _, e⟩
          have hO2 := own_below hO5 hB2
          have hb2 : Below w.heap.size w w2 := mQ.trans (hB2.mono mQ.size)
          have HT3 : Hid (∀ a v x, a < k -> T[a]? = some v -> xs[a]? = some x -> UJ w2 w.heap.size d v (j + a) x) := Aa (fun a v x h0 h1 h2 => (HT1.out a v x h0 h1 h2).stays (Qx.below hB2))
          have HT4 : Hid (∀ a v, a < t -> T[k + a]? = some v -> YV w2 w.heap.size d v (64 * (j / 8 + a))) := Aa (fun a v h0 h1 => (HT2.out a v h0 h1).stays (Qx.below hB2))
          clear hO5 hB2 HT1 HT2
          go_wp2_with (at_builtin; go_loud (refine Iz rfl (.tmp 56) (.tmp 60) 284 rfl Tryz.iH w2 w.heap.size u8 (k + t) T [.func F #[] cap] rfl hO2 rfl rfl rfl rfl 1 1 rfl rfl (by simpa using h1) (by simp; omega) (by decide) hb2.size ?_); intro v3 w3 hO3 hB3 hK3)
          have hst := Qx.kept hO2 hK3
          refine ⟨⟨_, _, _, _, _, _, _, _, _, _, _, _, _, ?_, rfl⟩, ?_⟩
          · refine ⟨t + 1, T ++ [.func F #[] cap], by omega, by rw [<- hat]; go_num, by rw [<- Nat.add_assoc]; exact hO3, fun a v x h0 h1 h2 => ?_, fun a v h0 h1 => ?_, hb2.trans hB3⟩
            · rw [DD (by omega)] at h1
              exact (HT3.out a v x h0 h1 h2).stays hst
            · by_cases e : a = t
              · subst e
                rw [Ew (by omega), hTl, WC] at h1
                simp at h1
                subst h1
                rw [hat]
                exact hs2.stays hst
              · rw [DD (by omega)] at h1
                exact (HT4.out a v (by omega) h1).stays hst
          · simp [intOf]; omega
        · have Ati : t = m := by omega
          subst Ati
          have h8 : ¬ 8 * (j / 8 + t) < j + k := fun h => hlt2 ((XA.out t).2 h)
          have t1 : decide (((64 * (j / 8 + t) : Nat) : Int) < 8 * (j : Int) + 8 * (k : Int)) = false := decide_eq_false (by omega)
          have HT1 := Aa hT1
          have HT2 := Aa hT2
          clear hT1 hT2
          go_wp2_with (at_builtin; go_loud (refine Iz rfl (.tmp 62) (.tmp 65) 284 rfl Tryz.iH wr w.heap.size u8 (k + t) T [.func (.func 147) #[Aw d] #[]] rfl hO5 rfl rfl rfl rfl 1 1 rfl rfl (by intro u hu; simp at hu; subst hu; rfl) (by simp; omega) (by decide) mQ.size ?_); intro v3 w3 hO3 hB3 hK3)
          have hst := Qx.kept hO5 hK3
          obtain ⟨A4, c4, rfl, hc4, hr4⟩ := CO hO3
          obtain ⟨g4, rfl, hg4, _⟩ := Kr hO3 (by omega)
          have hb3 := mQ.trans hB3
          subst hlen
          refine (uM d j t xs w w3 YU.out (H.out _ hb3) (by omega) (T ++ [.func (.func 147) #[Aw d] #[]])
            (fun a v x h0 h1 h2 => ?_) (fun a v h0 h1 => ?_) ?_ (by simp; omega) (some ⟨g4, 0, none⟩) c4 hr4 (fun a ha => by injection ha with ha; subst ha; exact hg4)).mono ?_
          · rw [DD (by omega)] at h1
            exact (HT1.out a v x h0 h1 h2).stays hst
          · rw [DD (by omega)] at h1
            exact (HT2.out a v h0 h1).stays hst
          · rw [Ew (by omega), hTl, WC]; rfl
          rintro e w' ⟨c5, rfl, hp⟩
          have HP := Aa (⟨_, hb3, c5, rfl, hp⟩ : ∃ W0, Below w.heap.size w W0 /\ ∃ c : Int, Ending.returned (.int .i64 c5) = .returned (.int .i64 c) /\ ((c = 0 /\ I W0 (xs.length + t + 1) w') \/ (c = 12 /\ J W0 w')))
          clear hp hb3 H YU
          go_wp2_with fail
          go_ret
          exact HP.out
theorem QW(lf:Int)(d L g:Nat)(hb:Nat->Option Nat)(ws:Nat->UInt64)(j n c:Nat)(A:Option Addr)(xs:List UInt64)(w:World)(hL0:0<L)(hL:L<=1024)(h:BG w d L ws (MU lf) (fun _=>0) g hb)(hj:j+n<=8*L)(hn0:0<n)(hx:Ws w A n xs):
 Calls Tryz.prog 139 #[Aw d,.int .i64 ((8*j:Nat):Int),.slice A n c] w fun e w'=>∃c:Int,e= .returned (.int .i64 c)/\Wrote lf (n+((j+n-1)/8-j/8+1)+1) w d L g hb ws j xs c w':=by
 obtain⟨st,hbx⟩:=h.box;have hlen:=hx.len;refine(YX d L g _ _ _ j n c A xs w hL0 hL hbx h.lt hj hn0 hx (fun W0 hB=>yG hL0 hL (h.below hB) (by omega) (by omega) (by omega) (by omega) (fun i h1 h2=>by omega) (fun t ht=>by omega))).mono ?_;rintro e w'⟨W0,hB,c,rfl,hi⟩;refine⟨c,rfl,Wrote.back (W0:=W0) ?_ hB⟩;rw [hlen]at hi;rcases hi with⟨h1,hi⟩| ⟨h1,hi⟩
 ·refine .inl ⟨h1,hi.1,?_⟩;have:=hi.2;rw [hlen,if_neg (by omega),if_neg (by omega)]at this;exact this
 ·exact .inr ⟨h1,hi⟩
theorem mV(d L g j n c:Nat)(A:Option Addr)(xs:List UInt64)(v2 v3:Value)(w:World)(hL0:0<L)(hL:L<=1024)(hB:CG w d 78 [.slice (some ⟨g,0,none⟩) L L,.bool true,v2,v3])(hj:j+n<=8*L)(hn0:0<n)(hx:Ws w A n xs):
 Calls Tryz.prog 139 #[Aw d,.int .i64 ((8*j:Nat):Int),.slice A n c] w fun e w'=>e= .returned (.int .i64 12)/\Below w.heap.size w w':=by
 refine(YX (own:=fun _=>False) d L g _ _ _ j n c A xs w hL0 hL hB (fun _ h=>h.elim) hj hn0 hx (fun W0 hb=>mM hL0 hL (hB.below hb hB.lt) _ j _ xs)).mono ?_;rintro e w'⟨W0,hb,c,rfl,⟨_,h1,_⟩| ⟨rfl,rfl⟩⟩
 ·omega
 ·exact⟨rfl,hb⟩
theorem YY(d L g:Nat)(hb:Nat->Option Nat)(ws:Nat->UInt64)(j n c:Nat)(A:Option Addr)(xs:List UInt64)(w:World)(hL0:0<L)(hL:L<=1024)(h:BG w d L ws M0 (fun _=>0) g hb)(hj:j+n<=8*L)(hn0:0<n)(hx:Ws w A n xs):
 Calls Tryz.prog 139 #[Aw d,.int .i64 ((8*j:Nat):Int),.slice A n c] w fun e w'=>e= .returned (.int .i64 0)/\Dv w d L g hb (BQ ws j xs) M0 (fun _=>0) w':=by
 refine(QW (-1) d L g hb ws j n c A xs w hL0 hL h hj hn0 hx).mono ?_;rintro e w'⟨c',rfl,hp⟩;obtain⟨rfl,hd⟩:=hp.up;exact⟨rfl,hd⟩
def QX(w:World)(b:Nat)(xs:List UInt64):Prop:=∃cur:Array Value,w.heap[b]? =some (.cells cur 28 (0,0))/\∀k(h:k<xs.length),cur[k]? =some (wv xs[k])
theorem QX.lt{w:World}{b:Nat}{xs:List UInt64}(h:QX w b xs):b<w.heap.size:=by
 obtain⟨cur,hc,_⟩:=h;exact(AB.1 hc).1
theorem QX.keep{w w':World}{b:Nat}{xs:List UInt64}(h:QX w b xs)(hk:w'.heap[b]? =w.heap[b]?):QX w' b xs:=by
 obtain⟨cur,hc,h2⟩:=h;exact⟨cur,hk.trans hc,h2⟩
theorem QX.cell{w:World}{b:Nat}{xs:List UInt64}(h:QX w b xs)(k:Nat)(hk:k<xs.length):w.cell? ⟨b,k,none⟩=some (.int .u64 (xs[k].toNat:Int)):=by
 obtain⟨cur,hc,h2⟩:=h;rw [cell_of_row w b k cur _ (0,0) hc,h2 k hk];rfl
theorem QX.frozen{w:World}{b:Nat}{xs:List UInt64}(h:QX w b xs)(k:Nat):w.frozen? ⟨b,k,none⟩=false:=by
 obtain⟨cur,hc,h2⟩:=h;simp [GG,hc]
theorem QX.set{w:World}{b:Nat}{xs:List UInt64}(h:QX w b xs)(k:Nat)(x:UInt64):QX (w.setCell ⟨b,k,none⟩ (wv x)) b (xs.set k x):=by
 obtain⟨cur,hc,h2⟩:=h;refine⟨_,LU _ hc,fun t ht=> ?_⟩;rw [List.length_set]at ht;rw [Array.getElem?_setIfInBounds,MO];by_cases e:k=t
 ·subst e;have:k<cur.size:=(AB.1 (h2 k ht)).1;rw [if_pos rfl,if_pos rfl,if_pos this]
 ·rw [if_neg e,if_neg e];exact h2 t ht
theorem QX.JI{w:World}{base b n c:Nat}{xs:List UInt64}(h:w.ownsRow base 28 1 (.slice (some ⟨b,0,none⟩) n c) n (xs.map wv)):QX w b xs:=by
 obtain⟨h1,h2⟩:=h;rcases h2 with⟨h2,_⟩| ⟨g',cap,cur,hv,hB,hg,hnc,hcm,hcs,ht⟩
 ·cases h2
 ·simp only [Value.slice.injEq,Option.some.injEq,Addr.mk.injEq,and_true,true_and]at hv;obtain⟨rfl,rfl⟩:=hv;refine⟨cur,hg,fun k hk=> ?_⟩;have hkn:k<n:=by simpa using(by simpa using h1:xs.length=n)▸hk
  have e:=congrArg (fun l=>l[k]?) ht;simp only [CS,BZ,Af hk,DK]at e;rw [if_pos (by omega)]at e;rw [<-Array.getElem?_toList];exact e
structure AO(F F':Nat->Prop)(w w':World):Prop where
 touch:Touch F w w'
 own:∀b,F' b->F b\/w.heap.size<=b
theorem AO.refl(F:Nat->Prop)(w:World):AO F F w w:=⟨Touch.refl _ _,fun _ h=> .inl h⟩
theorem AO.of_below{F:Nat->Prop}{w w':World}(h:Below w.heap.size w w'):AO F F w w':=⟨Touch.of_below h,fun _ h=> .inl h⟩
theorem AO.trans{F F' F'':Nat->Prop}{w w' w'':World}(h:AO F F' w w')(k:AO F' F'' w' w''):AO F F'' w w'':=
 ⟨h.touch.trans k.touch (fun b hb=>h.own b hb),fun b hb=>(k.own b hb).elim (fun h1=>h.own b h1) (fun h1=> .inr (Bg h.touch.size h1))⟩
theorem AO.below{F F':Nat->Prop}{w w' w'':World}(h:AO F F' w w')(k:Below w'.heap.size w' w''):AO F F' w w'':=h.trans (AO.of_below k)
theorem AO.set{F F':Nat->Prop}{w w':World}(h:AO F F' w w'){p:Addr}(hp:F p.block\/w.heap.size<=p.block)(u:Value):AO F F' w (w'.setCell p u):=⟨h.touch.setCell hp u,h.own⟩
structure Tabs(w:World):Prop where
 fours:∀j,j<16->w.cell? ⟨0,j,none⟩=some (.int .u32 (KR.getD j 0:Nat))
 iI:∀j,j<64->w.cell? ⟨1,j,none⟩=some (.int .u8 (Lib.deBruijn64tab.getD j 0:Nat))
theorem Tabs.keep{w w':World}(h:Tabs w)(h1:w'.heap[0]? =w.heap[0]?)(h2:w'.heap[1]? =w.heap[1]?):Tabs w':=
 ⟨fun j hj=>(Bz (w:=w) h1).trans (h.fours j hj),fun j hj=>(Bz (w:=w) h2).trans (h.iI j hj)⟩
theorem Tabs.lt{w:World}(h:Tabs w):0<w.heap.size/\1<w.heap.size:=
 ⟨Dz w _ (h.fours 0 (by decide)),Dz w _ (h.iI 0 (by decide))⟩
theorem Tabs.below{w w':World}(h:Tabs w)(k:Below w.heap.size w w'):Tabs w':=h.keep (k.block _ h.lt.1) (k.block _ h.lt.2)
inductive DW where
 | up(m:Mode)
 | down(P:(Nat->UInt64)->Prop)
instance:Coe Mode DW:=⟨.up⟩
def UK(w:World)(d L:Nat)(P:(Nat->UInt64)->Prop)(own:Nat->Prop):Prop:=
 ∃(m:Mode)(ws:Nat->UInt64)(mark:Nat->Nat),m.lf=0/\Dev w d L ws m mark own/\(∀i,m i<=1000000)/\(∀i,∀c∈m.MJ i,∃t,t<8/\c.1=8*t)/\∀pick:Nat->Nat,(∀i,pick i<=m i)->P (Oa m pick ws)
def TP(w:World)(d L:Nat)(ws:Nat->UInt64)(m:DW)(own:Nat->Prop):Prop:=match m with
 | .up m=>Dev w d L ws m (fun _=>0) own/\m.lf≠0
 | .down P=>UK w d L P own
theorem TP.rep{w:World}{d L:Nat}{ws:Nat->UInt64}{m:DW}{own:Nat->Prop}(h:TP w d L ws m own):∃ws' m' mark,Dev w d L ws' m' mark own:=by
 cases m with
 | up m=>exact⟨_,_,_,h.1⟩
 | down P=>obtain⟨_,_,_,_,h,_⟩:=h;exact⟨_,_,_,h⟩
theorem TP.lt{w:World}{d L:Nat}{ws:Nat->UInt64}{m:DW}{own:Nat->Prop}(h:TP w d L ws m own):∀b,own b->b<w.heap.size:=by
 obtain⟨_,_,_,h⟩:=h.rep;exact h.lt
theorem TP.touch{w w':World}{d L:Nat}{ws:Nat->UInt64}{m:DW}{own F:Nat->Prop}(h:TP w d L ws m own)(t:Touch F w w')(hF:∀b,own b->¬F b):TP w' d L ws m own:=by
 cases m with
 | up m=>exact⟨h.1.touch t hF,h.2⟩
 | down P=>obtain⟨m,ws,mark,h1,h2,h3⟩:=h;exact⟨m,ws,mark,h1,h2.touch t hF,h3⟩
theorem TP.below{w w':World}{d L:Nat}{ws:Nat->UInt64}{m:DW}{own:Nat->Prop}(h:TP w d L ws m own)(k:Below w.heap.size w w'):TP w' d L ws m own:=h.touch (Touch.of_below (F:=fun _=>False) k) (fun _ _=>id)
theorem TP.box{w:World}{d L:Nat}{ws:Nat->UInt64}{m:DW}{own:Nat->Prop}(h:TP w d L ws m own):∃g v1 v2 v3,CG w d 78 [.slice (some ⟨g,0,none⟩) L L,v1,v2,v3]:=by
 obtain⟨_,_,_,g,hb,hr,_⟩:=h.rep;obtain⟨st,hbx⟩:=hr.box;exact⟨g,_,_,_,hbx⟩
theorem TP.size{w:World}{d L:Nat}{ws:Nat->UInt64}{m:DW}{own:Nat->Prop}(h:TP w d L ws m own)(hL:L<=1024):Calls Tryz.prog 32 #[Aw d] w fun e w'=>e= .returned (.int .i64 ((L*64:Nat):Int))/\w=w':=by
 obtain⟨g,_,_,_,hbx⟩:=h.box;exact N8 d L g _ _ _ w hL hbx
structure Es(len:DW)(w:World)(d p L:Nat)(s:St)(tb hb n cT cH:Nat)(own:Nat->Prop):Prop where
 dev:TP w d L s.ws len own
 L0:0<L
 L1:L<=1024
 shape:shapeOf L=some s.sh
 box:CG w p 127 [Aw d,.int .i64 (s.sh.lines:Nat),.int .i64 (s.sh.BI:Nat),.int .i64 (s.sh.table:Nat),.int .i64 (s.sh.data:Nat),.slice (some ⟨tb,0,none⟩) n cT,.slice (some ⟨hb,0,none⟩) n cH]
 tk:QX w tb s.tk
 hd:QX w hb s.hd
 NR:s.tk.length=n
 kL:s.hd.length=n
 au:n=s.sh.BI
 cT:n<=cT
 cH:n<=cH
 dp:¬own p
 dt:¬own tb
 dh:¬own hb
 pt:p≠tb
 ph:p≠hb
 th:tb≠hb
 tabs:Tabs w
 g1:¬(own 0\/0=p\/0=tb\/0=hb)
 g2:¬(own 1\/1=p\/1=tb\/1=hb)
def Ej(len:DW)(w:World)(d p L:Nat)(s:St)(F:Nat->Prop):Prop:=
 ∃tb hb n cT cH own,Es len w d p L s tb hb n cT cH own/\∀b,F b<->(own b\/b=p\/b=tb\/b=hb)
abbrev Sys:=Ej (.up M0)
section
variable{w w':World}{d p L:Nat}{s:St}{F:Nat->Prop}
theorem Ej.lt{len:DW}(h:Ej len w d p L s F):∀b,F b->b<w.heap.size:=by
 obtain⟨tb,hb,n,cT,cH,own,h,hF⟩:=h;intro b hb';rcases(hF b).1 hb' with h1| rfl| rfl| rfl
 ·exact h.dev.lt b h1
 ·exact h.box.lt
 ·exact h.tk.lt
 ·exact h.hd.lt
theorem Ej.tabs{len:DW}(h:Ej len w d p L s F):Tabs w:=by
 obtain⟨tb,hb,n,cT,cH,own,h,hF⟩:=h;exact h.tabs
theorem Ej.keep{len:DW}(h:Ej len w d p L s F){G:Nat->Prop}(t:Touch G w w')(hG:∀b,F b->¬G b)(g1:¬G 0)(g2:¬G 1):Ej len w' d p L s F:=by
 have hlt:=h.lt;obtain⟨tb,hb,n,cT,cH,own,h,hF⟩:=h;have keep:∀b,F b->w'.heap[b]? =w.heap[b]? :=fun b hb'=>t.block b (hlt b hb') (hG b hb')
 refine⟨tb,hb,n,cT,cH,own,⟨h.dev.touch t (fun b hb'=>hG b ((hF b).2 (.inl hb'))),h.L0,h.L1,h.shape,(keep p ((hF p).2 (.inr (.inl rfl)))).trans h.box,h.tk.keep (keep tb ((hF tb).2 (.inr (.inr (.inl rfl))))),h.hd.keep (keep hb ((hF hb).2 (.inr (.inr (.inr rfl))))),h.NR,h.kL,h.au,h.cT,h.cH,h.dp,h.dt,h.dh,h.pt,h.ph,h.th,
  h.tabs.keep (t.block _ h.tabs.lt.1 g1) (t.block _ h.tabs.lt.2 g2),h.g1,h.g2⟩,hF⟩
theorem Ej.below{len:DW}(h:Ej len w d p L s F)(k:Below w.heap.size w w'):Ej len w' d p L s F:=
 h.keep (Touch.of_below (F:=fun _=>False) k) (fun _ _=>id) id id
end
theorem YZ(L:Nat):∀f s,Nu s<=L\/s=0->Nu (JC L f s)<=L\/JC L f s=0
 | 0,s,h=>h
 | f+1,s,h=>by
   unfold JC;split
   ·rename_i h1;exact YZ L f (s+1) (.inl h1)
   ·exact h
structure aX(L:Nat)(sh:Sh):Prop where
 BI:0<sh.BI
 lines:sh.lines=L
 table:sh.table=128
 data:sh.data=64*JD sh.BI
 fits:sh.data+1024*sh.BI<=64*L
 MK:128+8*sh.BI<=sh.data
theorem FI{L:Nat}{sh:Sh}(h:shapeOf L=some sh):aX L sh:=by
 unfold shapeOf at h;split at h
 ·cases h
 ·dsimp only at h
  split at h
  ·cases h
  ·rename_i h1 h2;injection h with h
   have:=(YZ L L 0 (.inr rfl)).resolve_right h2;subst h;unfold Nu JD at this;refine⟨Nat.pos_of_ne_zero h2,rfl,rfl,by simp [Nat.mul_comm],?_,?_⟩
   ·show(2+(PH L+7)/8)*64+1024*PH L<=64*L;unfold PH;omega
   ·show 128+8*PH L<=(2+(PH L+7)/8)*64;omega
section
variable{w w':World}{d p L:Nat}{s:St}{F:Nat->Prop}
theorem Es.wrote{m:DW}{m':Mode}{tb hb n cT cH g:Nat}{own:Nat->Prop}{hb0:Nat->Option Nat}{ws':Nat->UInt64}(h:Es m w d p L s tb hb n cT cH own)(hF:∀b,F b<->(own b\/b=p\/b=tb\/b=hb))(ho:∀b,own b<->Df d L g hb0 b)
 (hd:Dv w d L g hb0 ws' m' (fun _=>0) w')(hu:m'.lf≠0):∃F',Ej m' w' d p L {s with ws:=ws'} F'/\AO F F' w w':=by
 obtain⟨hb1,ho1,hr1,ht⟩:=hd;have out:∀b,b<w.heap.size->¬own b->¬Df d L g hb1 b:=fun b hlt hn h1=>(ho1 b h1).elim (fun h2=>hn ((ho b).2 h2)) (fun h2=>by omega)
 have keep:∀b,b<w.heap.size->¬own b->w'.heap[b]? =w.heap[b]? :=fun b hlt hn=>ht.block b hlt (fun h2=>hn ((ho b).2 h2))
 have hg1:¬own 0:=fun h1=>h.g1 (.inl h1)
 have hg2:¬own 1:=fun h1=>h.g2 (.inl h1)
 refine⟨fun b=>Df d L g hb1 b\/b=p\/b=tb\/b=hb,⟨tb,hb,n,cT,cH,Df d L g hb1,⟨⟨⟨g,hb1,hr1,fun _=>Iff.rfl⟩,hu⟩,h.L0,h.L1,h.shape,(keep p h.box.lt h.dp).trans h.box,h.tk.keep (keep tb h.tk.lt h.dt),h.hd.keep (keep hb h.hd.lt h.dh),h.NR,h.kL,h.au,h.cT,h.cH,
  out p h.box.lt h.dp,out tb h.tk.lt h.dt,out hb h.hd.lt h.dh,h.pt,h.ph,h.th,h.tabs.keep (keep _ h.tabs.lt.1 hg1) (keep _ h.tabs.lt.2 hg2),
  fun h1=>h1.elim (out _ h.tabs.lt.1 hg1) (fun h2=>h.g1 (.inr h2)),fun h1=>h1.elim (out _ h.tabs.lt.2 hg2) (fun h2=>h.g2 (.inr h2))⟩,fun _=>Iff.rfl⟩,⟨ht.mono (fun b hb'=>(hF b).2 (.inl ((ho b).2 hb'))),fun b hb'=> ?_⟩⟩
 rcases hb' with h1| h1
 ·exact(ho1 b h1).imp (fun h2=>(hF b).2 (.inl ((ho b).2 h2))) id
 ·exact .inl ((hF b).2 (.inr h1))
theorem Es.cut{m:DW}{m':Mode}{mark:Nat->Nat}{P:(Nat->UInt64)->Prop}{tb hb n cT cH g:Nat}{own:Nat->Prop}{hb0:Nat->Option Nat}{ws':Nat->UInt64}(h:Es m w d p L s tb hb n cT cH own)(hF:∀b,F b<->(own b\/b=p\/b=tb\/b=hb))(ho:∀b,own b<->Df d L g hb0 b)
 (hd:Dv w d L g hb0 ws' m' mark w')(hu:m'.lf=0)(hm:∀i,m' i<=1000000)(hc:∀i,∀c∈m'.MJ i,∃t,t<8/\c.1=8*t)(hP:∀pick:Nat->Nat,(∀i,pick i<=m' i)->P (Oa m' pick ws'))(ws2:Nat->UInt64):∃F',Ej (.down P) w' d p L {s with ws:=ws2} F'/\AO F F' w w':=by
 obtain⟨hb1,ho1,hr1,ht⟩:=hd;have out:∀b,b<w.heap.size->¬own b->¬Df d L g hb1 b:=fun b hlt hn h1=>(ho1 b h1).elim (fun h2=>hn ((ho b).2 h2)) (fun h2=>by omega)
 have keep:∀b,b<w.heap.size->¬own b->w'.heap[b]? =w.heap[b]? :=fun b hlt hn=>ht.block b hlt (fun h2=>hn ((ho b).2 h2))
 have hg1:¬own 0:=fun h1=>h.g1 (.inl h1)
 have hg2:¬own 1:=fun h1=>h.g2 (.inl h1)
 refine⟨fun b=>Df d L g hb1 b\/b=p\/b=tb\/b=hb,⟨tb,hb,n,cT,cH,Df d L g hb1,⟨⟨m',ws',mark,hu,⟨g,hb1,hr1,fun _=>Iff.rfl⟩,hm,hc,hP⟩,h.L0,h.L1,h.shape,(keep p h.box.lt h.dp).trans h.box,h.tk.keep (keep tb h.tk.lt h.dt),h.hd.keep (keep hb h.hd.lt h.dh),h.NR,h.kL,h.au,h.cT,h.cH,
  out p h.box.lt h.dp,out tb h.tk.lt h.dt,out hb h.hd.lt h.dh,h.pt,h.ph,h.th,h.tabs.keep (keep _ h.tabs.lt.1 hg1) (keep _ h.tabs.lt.2 hg2),
  fun h1=>h1.elim (out _ h.tabs.lt.1 hg1) (fun h2=>h.g1 (.inr h2)),fun h1=>h1.elim (out _ h.tabs.lt.2 hg2) (fun h2=>h.g2 (.inr h2))⟩,fun _=>Iff.rfl⟩,⟨ht.mono (fun b hb'=>(hF b).2 (.inl ((ho b).2 hb'))),fun b hb'=> ?_⟩⟩
 rcases hb' with h1| h1
 ·exact(ho1 b h1).imp (fun h2=>(hF b).2 (.inl ((ho b).2 h2))) id
 ·exact .inl ((hF b).2 (.inr h1))
theorem Aii(h:Sys w d p L s F)(j:Nat)(x:UInt64)(hj:j<8*L):
 Calls Tryz.prog 95 #[Aw d,.int .i64 ((8*j:Nat):Int),.int .u64 (x.toNat:Int)] w fun e w'=>e= .returned (.int .i64 0)/\
  ∃F',Sys w' d p L {s with ws:=Gg s.ws j x} F'/\AO F F' w w':=by
 obtain⟨tb,hb,n,cT,cH,own,h,hF⟩:=h;obtain⟨⟨g,hb0,hr,ho⟩,hu⟩:=h.dev;refine(Aih d L g hb0 s.ws j x w h.L0 h.L1 hr hj).mono ?_;rintro e w'⟨rfl,hd⟩;exact⟨rfl,h.wrote hF ho hd (by decide)⟩
theorem uN(h:Sys w d p L s F)(j n c:Nat)(A:Option Addr)(xs:List UInt64)(hj:j+n<=8*L)(hn0:0<n)(hx:Ws w A n xs):
 Calls Tryz.prog 139 #[Aw d,.int .i64 ((8*j:Nat):Int),.slice A n c] w fun e w'=>e= .returned (.int .i64 0)/\
  ∃F',Sys w' d p L {s with ws:=BQ s.ws j xs} F'/\AO F F' w w':=by
 obtain⟨tb,hb,n',cT,cH,own,h,hF⟩:=h;obtain⟨⟨g,hb0,hr,ho⟩,hu⟩:=h.dev;refine(YY d L g hb0 s.ws j n c A xs w h.L0 h.L1 hr hj hn0 hx).mono ?_;rintro e w'⟨rfl,hd⟩;exact⟨rfl,h.wrote hF ho hd (by decide)⟩
theorem iJ{len:Mode}(h:Ej len w d p L s F)(j n:Nat)(hj:j+n<=8*L):
 Calls Tryz.prog 33 #[Aw d,.int .i64 ((8*j:Nat):Int),.int .i64 (n:Int)] w fun e w'=>∃v,e= .returned (.tuple #[v,.int .i64 0])/\
  w'.ownsRow w.heap.size 28 1 v n ((wordsAt s.ws j n).map wv)/\Below w.heap.size w w':=by
 obtain⟨tb,hb,n',cT,cH,own,h,hF⟩:=h;obtain⟨⟨g,hb0,hr,ho⟩,hu⟩:=h.dev;exact XR d L s.ws _ _ g hb0 j n w h.L0 h.L1 hu hr hj
theorem mX{ws0 ws:Nat->UInt64}{i:Nat}(q:Nat):∀{l:List (Nat×UInt64)},(∀c∈l,c.2=ws0 (8*i+c.1/8))->IV i l ws q=ws q\/IV i l ws q=ws0 q
 | [],_=> .inl rfl
 | c::l,h=>by
   unfold IV;by_cases e:q=8*i+c.1/8
   ·right;rw [if_pos e,h c (Bq ..),<-e]
   ·rw [if_neg e];exact mX q (fun x hx=>h x (List.mem_cons_of_mem _ hx))
def Half(ws ws2 ws':Nat->UInt64):Prop:=∀q,ws' q=ws q\/ws' q=ws2 q
theorem Za{ws XQ ws2:Nat->UInt64}{j n:Nat}{m:Mode}(h:YS ws j n m)(h1:∀q,XQ q=ws q\/XQ q=ws2 q)(pick:Nat->Nat):Half ws ws2 (Oa m pick XQ):=fun q=>by
 unfold Oa;rcases mX (ws0:=ws) (ws:=XQ) (i:=q/8) q (l:=(m.MJ (q/8)).drop (pick (q/8))) (fun c hc=>by
  obtain⟨t,t1,t2,t3,t4,t5⟩:=h (q/8) c (List.mem_of_mem_drop hc);rw [t5];congr 1;omega)with e| e
 ·rw [e];exact h1 q
 ·exact .inl e
def Aes(lf:Int)(ws ws2:Nat->UInt64)(c:Int)(m':DW):Prop:=
 (c=0/\∃lf':Int,m'= .up (MU lf')/\lf'≠0/\(lf<0->lf'=lf)/\(0<lf->0<lf'/\lf'<lf))\/(c=0/\0<lf/\m'= .down (fun ws'=>ws'=ws2))\/(c=12/\0<lf/\m'= .down (Half ws ws2))
theorem Es.out{lf:Int}{N:Nat}{tb hb n cT cH g:Nat}{own:Nat->Prop}{hb0:Nat->Option Nat}{j:Nat}{xs:List UInt64}{c:Int}(h:Es (.up (MU lf)) w d p L s tb hb n cT cH own)(hN:0<N)(hF:∀b,F b<->(own b\/b=p\/b=tb\/b=hb))(ho:∀b,own b<->Df d L g hb0 b)
 (hd:Wrote lf N w d L g hb0 s.ws j xs c w'):∃m' F',Ej m' w' d p L {s with ws:=BQ s.ws j xs} F'/\AO F F' w w'/\Aes lf s.ws (BQ s.ws j xs) c m':=by
 have hlf:=h.dev.2;change lf≠0 at hlf;rcases hd with⟨h1,h2,h3⟩| ⟨h1,h2,h3,len,XQ,mark,h4,h5,h6,h7,h8⟩
 ·by_cases hz:X9 lf N=0
  ·obtain⟨F',hs,hm⟩:=h.cut (P:=fun ws'=>ws'=BQ s.ws j xs) hF ho h3 hz (fun _=>BK _) (fun _ _ h=>nomatch h) (fun pick _=>by funext q;unfold Oa;rw [show((MU (X9 lf N)).MJ (q/8))=[]from rfl,List.drop_nil];rfl) (BQ s.ws j xs);refine⟨_,F',hs,hm,.inr (.inl ⟨h1,?_,rfl⟩)⟩;unfold X9 at hz;split at hz<;>omega
  ·obtain⟨F',hs,hm⟩:=h.wrote hF ho h3 hz;refine⟨_,F',hs,hm,.inl ⟨h1,_,rfl,hz,fun hl=> ?_,fun hl=> ?_⟩⟩
   ·unfold X9;rw [if_pos hl]
   ·unfold X9 at hz⊢;rw [if_neg (by omega)]at hz⊢;omega
 ·obtain⟨F',hs,hm⟩:=h.cut (P:=Half s.ws (BQ s.ws j xs)) hF ho h8 h4 h5 (fun i c hc=>by
  obtain⟨t,t1,t2,_⟩:=h6 i c hc;exact⟨t,t1,t2⟩) (fun pick _=>Za h6 h7 pick) (BQ s.ws j xs)
  exact⟨_,F',hs,hm,.inr (.inr ⟨h1,by omega,rfl⟩)⟩
theorem mY{lf:Int}(h:Ej (.up (MU lf)) w d p L s F)(j n c:Nat)(A:Option Addr)(xs:List UInt64)(hj:j+n<=8*L)(hn0:0<n)(hx:Ws w A n xs):
 Calls Tryz.prog 139 #[Aw d,.int .i64 ((8*j:Nat):Int),.slice A n c] w fun e w'=>∃c:Int,e= .returned (.int .i64 c)/\
  ∃m' F',Ej m' w' d p L {s with ws:=BQ s.ws j xs} F'/\AO F F' w w'/\Aes lf s.ws (BQ s.ws j xs) c m'/\(0<lf->lf<=n+1->c=12):=by
 obtain⟨tb,hb,n',cT,cH,own,h,hF⟩:=h;obtain⟨⟨g,hb0,hr,ho⟩,hu⟩:=h.dev;refine(QW lf d L g hb0 s.ws j n c A xs w h.L0 h.L1 hr hj hn0 hx).mono ?_;rintro e w'⟨c,rfl,hd⟩;have hcut:0<lf->lf<=n+1->c=12:=fun h1 h2=>by
  rcases hd with⟨_,h4,_⟩| ⟨h3,_⟩
  ·omega
  ·exact h3
 obtain⟨m',F',h1,h2,h3⟩:=h.out (by omega) hF ho hd;exact⟨c,rfl,m',F',h1,h2,h3,hcut⟩
end
theorem Dv.dev{w w':World}{d L g:Nat}{hb0:Nat->Option Nat}{own:Nat->Prop}{ws':Nat->UInt64}(ho:∀b,own b<->Df d L g hb0 b)(hd:Dv w d L g hb0 ws' M0 (fun _=>0) w'):
 ∃own',Dev w' d L ws' M0 (fun _=>0) own'/\Touch own w w'/\∀b,own' b->own b\/w.heap.size<=b:=by
 obtain⟨hb1,ho1,hr1,ht⟩:=hd;exact⟨Df d L g hb1,⟨g,hb1,hr1,fun _=>Iff.rfl⟩,ht.mono (fun b hb=>(ho b).2 hb),fun b hb=>(ho1 b hb).imp (ho b).2 id⟩
theorem Zb{w:World}{d L:Nat}{ws:Nat->UInt64}{own:Nat->Prop}(hL0:0<L)(hL:L<=1024)(h:Dev w d L ws M0 (fun _=>0) own)(j n c:Nat)(A:Option Addr)(xs:List UInt64)(hj:j+n<=8*L)(hn0:0<n)(hx:Ws w A n xs):
 Calls Tryz.prog 139 #[Aw d,.int .i64 ((8*j:Nat):Int),.slice A n c] w fun e w'=>e= .returned (.int .i64 0)/\
  ∃own',Dev w' d L (BQ ws j xs) M0 (fun _=>0) own'/\Touch own w w'/\∀b,own' b->own b\/w.heap.size<=b:=by
 obtain⟨g,hb0,hr,ho⟩:=h;refine(YY d L g hb0 ws j n c A xs w hL0 hL hr hj hn0 hx).mono ?_;rintro e w'⟨rfl,hd⟩;exact⟨rfl,hd.dev ho⟩
theorem Aa9{w:World}{d L:Nat}{ws:Nat->UInt64}{own:Nat->Prop}(hL0:0<L)(hL:L<=1024)(h:Dev w d L ws M0 (fun _=>0) own):
 Calls Tryz.prog 138 #[Aw d,.int .i64 0,.int .i64 (L:Int)] w fun e w'=>e= .returned (.int .i64 0)/\
  ∃own',Dev w' d L (BQ ws 0 (BB (8*L) 0)) M0 (fun _=>0) own'/\Touch own w w'/\∀b,own' b->own b\/w.heap.size<=b:=by
 obtain⟨i0,hi,hz0,hz1,hz2⟩:=info_parts Tryz.Je.hi;have t1:decide ((L:Int)<0)=false:=by simp
 have t2:decide ((1024:Int)<(L:Int))=false:=decide_eq_false (by omega);have H:=Aa h;clear h;go_enter Tryz.func138,Tryz.ntmps138
 go_wp2_with(at_make;rw [show(L:Int)*8=((8*L:Nat):Int)by omega];refine wpList_make_full _ rfl _ _ 91 rfl w.heap.size 28 i0 (.int .u64 0) 1 Tryz.underlying91 hi hz0 hz1 .i64 .i64 _ _ (8*L) rfl rfl rfl rfl (by rw [hz2];omega) (by unfold maxLen;omega) (Ad _) ?_;intro w0 hown0 hgrow0)
 have hb0:Below w.heap.size w w0:=(Below.refl _ _).grown hgrow0 (Ad _) (by simp);obtain⟨g,hbb,hr,ho⟩:=H.out;have h0:Dev w0 d L ws M0 (fun _=>0) own:=⟨g,hbb,hr.below hb0,ho⟩;rw [KP]at hown0;have HP:=Zb hL0 hL h0 0 (8*L) (8*L) (some ⟨w.heap.size,0,none⟩) (BB (8*L) 0) (by omega) (by omega) (CB hown0).2;rw [show((8*0:Nat):Int)=0 from rfl]at HP;refine HP.mono ?_;rintro e w'⟨rfl,own',hd,ht,ho'⟩
 go_wp2_with fail
 go_ret;refine⟨rfl,own',hd,(Touch.of_below hb0).trans ht (fun b hb=> .inl hb),fun b hb=>(ho' b hb).imp id (fun h=>Bg hb0.size h)⟩
