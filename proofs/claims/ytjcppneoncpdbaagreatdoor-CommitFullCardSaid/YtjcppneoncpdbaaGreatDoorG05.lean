import Derived.Deep.RegionWith
import Derived.IntWalk
import Derived.Lib.TrailingZeros
import Derived.Test.YtjcppneoncpdbaaGreatDoorG01
import Derived.Test.YtjcppneoncpdbaaGreatDoorG04
set_option maxHeartbeats 32000000
set_option maxRecDepth 100000
open Go.Lib renaming hid->Aa
open Nat renaming zero_le->BA,le_refl->Ad,le_trans->AL,min_eq_left->Iq,add_sub_cancel_left->OV,sub_self->jQ
open List renaming replicate->Bf,ext_getElem->DX,getElem?_replicate->Gz,getElem?_append_left->CE,range->Dn,getElem?_map->BC,getElem_set->Je,getD_eq_getElem?_getD->AZ,getElem?_take->CG,getElem?_eq_getElem->Af,getElem?_append_right->BX
open Option renaming map_some->Dh,getD_some->NF
namespace Go.Proofs.YtjcppneoncpdbaaGreatDoor
open Go.RowKit
theorem Yl(g i:Nat)(w:World)(z3:w.cell? ⟨g,66*i+65,none⟩=some (.int .i64 0)):
 Calls Tryz.prog 147 #[.pointer (some ⟨g,66*i,none⟩)] w fun e w'=>e= .returned (.tuple #[])/\w=w':=by
 go_enter Tryz.func147,Tryz.ntmps147;go_wp2;go_end0;exact⟨rfl,rfl⟩
theorem xR(A:Option Addr)(n c:Nat)(hn:n<=1000000):∃D,∀W,(Instr.slice 100 (.slice A n c) (some (.int .i64 (n:Int))) none none).run Tryz.prog W= .ok (.slice D 0 (c-n)) W:=by
 obtain⟨i,hi,hz0,hz1,hz2⟩:∃i,Tryz.prog.info? 107=some i/\i.zero=some (.agg #[.int .i64 0,.int .u64 0])/\i.size=2/\i.bytes=16:=by
  have hI:(Tryz.prog.info? 107).map (fun i=>(i.zero,i.size,i.bytes))=some (some (.agg #[.int .i64 0,.int .u64 0]),2,16):=by kernel_rfl
  exact info_parts hI
 refine⟨if c=n then A else A.map (·.add (n*2)),fun W=> ?_⟩;have e2:=run_sliceBound (P:=Tryz.prog) (w:=W) .i64 (n:Int) n .sliceB (by omega) (by omega);have e3:(sizeOf 107).run Tryz.prog W= .ok 2 W:=by simp [sizeOf,typeInfo,hi,hz1]
 simp [Instr.slice,run_underlying Tryz.underlying100,Instr.sliceBounds,e2]
theorem lD(g i n c:Nat)(A:Option Addr)(w:World)(hn:n<=1000000)(z1:w.cell? ⟨g,66*i+64,none⟩=some (.slice A n c))(z3:w.cell? ⟨g,66*i+65,none⟩=some (.int .i64 ((n:Int)+1)))
 (f1:w.frozen? ⟨g,66*i+64,none⟩=false)(f2:w.frozen? ⟨g,66*i+65,none⟩=false):
 Calls Tryz.prog 147 #[.pointer (some ⟨g,66*i,none⟩)] w fun e w'=>e= .returned (.tuple #[])/\∃B w1,Below w.heap.size w w1/\w'=(w1.setCell ⟨g,66*i+64,none⟩ (.slice B 0 0)).setCell ⟨g,66*i+65,none⟩ (.int .i64 0):=by
 have ZW:g<w.heap.size:=World.block_lt_of_cell? w _ z1;obtain⟨D,hD⟩:=xR A n c hn;have b1:IntKind.i64.wrap ((n:Int)+1-1)=(n:Int):=by rw [Int.add_sub_cancel];exact IntWalk.i64_in _ (by omega)
 have b2:IntKind.i64.wrap (n:Int)=(n:Int):=IntWalk.i64_in _ (by omega);have t1:decide ((0:Int)<(n:Int)+1)=true:=decide_eq_true (by omega);go_enter Tryz.func147,Tryz.ntmps147
 go_wp2_with fail
 go_region_with(go_at_call 180;go_loud(refine(lh _ _ _).mono ?_;rintro e w1⟨B,rfl,hb1⟩;have k1:=(hb1.cell (p:=⟨g,66*i+64,none⟩) ZW).trans z1;have k2:=(hb1.frozen (p:=⟨g,66*i+64,none⟩) ZW).trans f1;have k3:=(hb1.cell (p:=⟨g,66*i+65,none⟩) ZW).trans z3;have k4:=(hb1.frozen (p:=⟨g,66*i+65,none⟩) ZW).trans f2))
 all_goals(go_wp2_with fail)
 all_goals(go_end0)
 all_goals(exact⟨rfl,B,w1,⟨hb1.os,hb1.tape,hb1.output,hb1.size,hb1.block⟩,rfl⟩)
def NP(k:Nat)(len mark:Nat->Nat)(i:Nat):Nat:=if i<k/\mark i≠0 then 0 else len i
def IX(k:Nat)(mark:Nat->Nat)(i:Nat):Nat:=if i<k then 0 else mark i
def J6(k:Nat)(mark:Nat->Nat)(hb:Nat->Option Nat)(i:Nat):Option Nat:=if i<k/\mark i≠0 then none else hb i
theorem sO(len mark:Nat->Nat):NP 0 len mark=len:=by funext i;simp [NP]
theorem lF(mark:Nat->Nat):IX 0 mark=mark:=by funext i;simp [IX]
theorem xU(mark:Nat->Nat)(hb:Nat->Option Nat):J6 0 mark hb=hb:=by funext i;simp [J6]
theorem Abm(k:Nat)(len mark:Nat->Nat)(h:mark k=0):NP (k+1) len mark=NP k len mark:=by
 funext i;unfold NP;by_cases e:i=k
 ·subst e;simp [h]
 ·simp only [show(i<k+1)=(i<k)by apply propext;omega]
theorem xW(k:Nat)(mark:Nat->Nat)(h:mark k=0):IX (k+1) mark=IX k mark:=by
 funext i;unfold IX;by_cases e:i=k
 ·subst e;simp [h]
 ·simp only [show(i<k+1)=(i<k)by apply propext;omega]
theorem Aek(k:Nat)(mark:Nat->Nat)(hb:Nat->Option Nat)(h:mark k=0):J6 (k+1) mark hb=J6 k mark hb:=by
 funext i;unfold J6;by_cases e:i=k
 ·subst e;simp [h]
 ·simp only [show(i<k+1)=(i<k)by apply propext;omega]
theorem xX(k:Nat)(len mark:Nat->Nat)(h:mark k≠0):NP (k+1) len mark=fun i=>if i=k then 0 else NP k len mark i:=by
 funext i;unfold NP;by_cases e:i=k
 ·subst e;simp [h]
 ·simp only [show(i<k+1)=(i<k)by apply propext;omega,if_neg e]
theorem sQ(k:Nat)(mark:Nat->Nat):IX (k+1) mark=fun i=>if i=k then 0 else IX k mark i:=by
 funext i;unfold IX;by_cases e:i=k
 ·subst e;simp
 ·simp only [show(i<k+1)=(i<k)by apply propext;omega,if_neg e]
theorem Abn(k:Nat)(mark:Nat->Nat)(hb:Nat->Option Nat)(h:mark k≠0):J6 (k+1) mark hb=fun i=>if i=k then none else J6 k mark hb i:=by
 funext i;unfold J6;by_cases e:i=k
 ·subst e;simp [h]
 ·simp only [show(i<k+1)=(i<k)by apply propext;omega,if_neg e]
theorem xY(d L:Nat)(ws:Nat->UInt64)(len mark:Nat->Nat)(g:Nat)(hb:Nat->Option Nat)(k:Nat)(w:World)(hk:k<L)(h:Cj w d L ws (NP k len mark) (IX k mark) g (J6 k mark hb))
 (hm:mark k=0\/mark k=len k+1)(hlen:len k<=1000000):
 Calls Tryz.prog 147 #[.pointer (some ⟨g,66*k,none⟩)] w fun e w'=>e= .returned (.tuple #[])/\
  Cj w' d L ws (NP (k+1) len mark) (IX (k+1) mark) g (J6 (k+1) mark hb)/\Touch (fun b=>b=g) w w':=by
 obtain⟨cur,hg,hs,h1,h2⟩:=h.blk;obtain⟨A,c,e1,e2,hc⟩:=h2 k hk;have l1:NP k len mark k=len k:=by simp [NP]
 have m1:IX k mark k=mark k:=by simp [IX]
 rw [l1]at e1;rw [m1]at e2;have z1:w.cell? ⟨g,66*k+64,none⟩=some (.slice A (len k) c):=by rw [cell_of_row w g _ cur _ (0,0) hg];exact e1
 have z3:w.cell? ⟨g,66*k+65,none⟩=some (.int .i64 (mark k:Int)):=by rw [cell_of_row w g _ cur _ (0,0) hg];exact e2
 have f1:w.frozen? ⟨g,66*k+64,none⟩=false:=by simp [World.frozen?,hg]
 have f2:w.frozen? ⟨g,66*k+65,none⟩=false:=by simp [World.frozen?,hg]
 by_cases h0:mark k=0
 ·rw [h0]at z3;refine(Yl g k w z3).mono ?_;rintro e w'⟨rfl,rfl⟩;refine⟨rfl,?_,Touch.refl _ _⟩;rw [Abm _ _ _ h0,xW _ _ h0,Aek _ _ _ h0];exact h
 ·have hm':mark k=len k+1:=hm.resolve_left h0;rw [hm',Int.natCast_add]at z3;refine(lD g k (len k) c A w hlen z1 z3 f1 f2).mono ?_;rintro e w'⟨rfl,B,w1,hb1,rfl⟩;refine⟨rfl,?_,Touch.setCell (F:=fun b=>b=g) (Touch.setCell (F:=fun b=>b=g) (Touch.of_below hb1) (p:=⟨g,66*k+64,none⟩) (.inl rfl) _) (p:=⟨g,66*k+65,none⟩) (.inl rfl) _⟩;rw [xX _ _ _ h0,sQ,Abn _ _ _ h0];exact h.clear hk hb1 B
theorem sS(d L:Nat)(ws:Nat->UInt64)(len mark:Nat->Nat)(g:Nat)(hb:Nat->Option Nat)(w:World)(hL:L<=1024)(hL0:0<L)(h:Cj w d L ws len mark g hb)
 (hm:∀i,i<L->mark i=0\/mark i=len i+1)(hlen:∀i,i<L->len i<=1000000):
 Calls Tryz.prog 100 #[.pointer (some ⟨d,0,none⟩)] w fun e w'=>e= .returned (.int .i64 0)/\
  Cj w' d L ws (NP L len mark) (IX L mark) g (J6 L mark hb)/\Touch (EO d L g hb) w w':=by
 obtain⟨st,hbx⟩:=h.box;obtain⟨y0,y1,y2,y3,f0,f1,f2,f3⟩:=Cb hbx;have ha:=kZ d L g 0 1 (.int .i64 (-1)) (.int .i64 st) w hL hbx (by omega) (by decide) (by decide) (by decide);have HA:=Aa ha;have H:=Aa h;have HM:=Aa hm;have HL:=Aa hlen;clear ha h hbx hm hlen;go_enter Tryz.func100,Tryz.ntmps100
 go_wp2_with fail
 refine HA.out.mono ?_;rintro e w'⟨rfl,rfl⟩;clear HA
 go_wp2_with fail
 clear y0 y1 y2 y3 f0 f1 f2 f3
 go_loopw [15](fun i wr=>∃k:Nat,k<=L/\i= .int .i64 k/\Cj wr d L ws (NP k len mark) (IX k mark) g (J6 k mark hb)/\Touch (fun b=>b=g) w wr)(fun i _=>L- (intOf i).toNat)
 case atStart=>exact⟨0,BA _,rfl,by rw [sO,lF,xU];exact H.out,Touch.refl _ _⟩
 case round=>
  obtain⟨k,hk,rfl,hr,ht⟩:=hrel;obtain⟨st2,hbx2⟩:=hr.box;obtain⟨y0,y1,y2,y3,f0,f1,f2,f3⟩:=Cb hbx2;by_cases hlt:k<L
  ·have HF:=Aa (xY d L ws len mark g hb k wr hlt hr (HM.out k hlt) (HL.out k hlt));have HT:=Aa ht;clear hr ht hbx2
   go_wp2_with fail
   rw [show k*66=66*k by omega];refine HF.out.mono ?_;rintro e w2⟨rfl,hr2,ht2⟩;have ht3:=HT.out.trans ht2 (fun b hb'=> .inl hb');clear HF HT y0 y1 y2 y3 f0 f1 f2 f3 ht2
   go_wp2_with fail
   go_roundw
   case rel=>exact⟨k+1,by omega,by go_num,hr2,ht3⟩
   case measure=>simp [intOf];omega
  ·have hkn:k=L:=by omega
   subst hkn;have HD:=Aa (SI d g k st2 wr hbx2);have HR:=Aa hr;have HT:=Aa ht;clear hr ht hbx2
   go_wp2_with fail
   refine HD.out.mono ?_;rintro e w2⟨rfl,st',rfl⟩;clear HD
   go_wp2_with fail
   go_ret;exact⟨rfl,HR.out.step st',(HT.out.mono (fun b e=> .inr (.inl e))).setCell (.inl (.inl rfl)) _⟩
def KG:Array Value:=(Bf 64 (Value.int .u8 0)++[Value.slice none 0 0,Value.int .i64 0]).toArray
theorem Tryz.lG:(Tryz.prog.info? 102).bind (fun i=>i.zero.map (fun z=>(z.cells,i.size,i.bytes)))=some (KG,66,96):=by kernel_rfl
theorem lH(i:Nat):leBytes (GI (fun _=>0) i)=Bf 64 0:=by
 have:GI (fun _=>0) i=Bf 8 0:=by
  apply DX
  ·simp [GI]
  ·intro t h1 h2;rw [LG,List.getElem_replicate]
 rw [this];decide
theorem Ub(L i k:Nat)(hi:i<L)(hk:k<66):(madeCells KG (L*66))[66*i+k]? =KG[k]? :=by
 have hs:KG.size=66:=rfl;have:66*i+k<L*66:=by omega
 unfold madeCells;rw [Array.getElem?_map,hs];simp only [Array.getElem?_range,this,if_true,Dh];rw [show(66*i+k)%66=k by omega,getElem!_pos KG k (by rw [hs];exact hk),Array.getElem?_eq_getElem (by rw [hs];exact hk)]
theorem Cj.made{w:World}{d g L:Nat}{st:Int}(hd:BH w d 105 [.slice (some ⟨g,0,none⟩) L L,.bool false,.int .i64 (-1),.int .i64 st])(hne:g≠d)(hg:w.heap[g]? =some (.cells (madeCells KG (L*66)) 102 (0,0))):
 Cj w d L (fun _=>0) (fun _=>0) (fun _=>0) g (fun _=>none):=by
 refine⟨⟨st,hd⟩,hne,⟨_,hg,by rw [size_madeCells];omega,fun i hi k hk=> ?_,fun i hi=>⟨none,0,?_,?_,.inl ⟨rfl,rfl,rfl⟩⟩⟩,fun i hi h hh=>(by cases hh),fun i j hi hj hij h hh=>(by cases hh),fun i hi=>BA _⟩
 ·rw [Ub L i k hi (by omega),lH,Gz,if_pos hk];show(Bf 64 (Value.int .u8 0)++[Value.slice none 0 0,Value.int .i64 0]).toArray[k]? =_;rw [List.getElem?_toArray,CE (by simpa using hk),Gz,if_pos hk];rfl
 ·rw [Ub L i 64 hi (by decide)];rfl
 ·rw [Ub L i 65 hi (by decide)];rfl
theorem Abp(L:Nat)(w:World)(hL0:1<=L)(hL:L<=1024):
 Calls Tryz.prog 64 #[.int .i64 (L:Int)] w fun e w'=>∃d g,e= .returned (.pointer (some ⟨d,0,none⟩))/\
  Cj w' d L (fun _=>0) (fun _=>0) (fun _=>0) g (fun _=>none)/\w.heap.size<=d/\w.heap.size<=g/\Below w.heap.size w w':=by
 obtain⟨i0,z,hi,hz0,hz1,hz2,hz3⟩:∃i z,Tryz.prog.info? 102=some i/\i.zero=some z/\i.size=66/\i.bytes=96/\z.cells=KG:=by
  have h:=Tryz.lG;cases hh:Tryz.prog.info? 102 with
  | none=>rw [hh]at h;cases h
  | some i=>
    rw [hh]at h;cases hz:i.zero with
    | none=>simp [hz]at h
    | some z=>simp [hz]at h;exact⟨i,z,rfl,hz,h.2.1,h.2.2,h.1⟩
 go_enter Tryz.func64,Tryz.ntmps64
 go_wp2_with(at_make;refine wpList_make_full _ rfl _ _ 103 rfl w.heap.size 102 i0 z 66 Tryz.underlying103 hi hz0 hz1 .i64 .i64 _ _ L rfl rfl rfl rfl (by rw [hz2];omega) (by unfold maxLen;omega) (Ad _) ?_;intro w0 hown0 hgrow0)
 have hb0:Below w.heap.size w w0:=(Below.refl _ _).grown hgrow0 (Ad _) (by simp);rw [hz3]at hown0;have hg:w0.heap[w.heap.size]? =some (.cells (madeCells KG (L*66)) 102 (0,0)):=by
  rcases hown0.2 with⟨h,_⟩| ⟨g,cap,cur,h,_,hgg,_,_,hcs,ht⟩
  ·cases h
  ·simp only [Value.slice.injEq,Option.some.injEq,Addr.mk.injEq,and_true,true_and]at h;obtain⟨rfl,rfl⟩:=h;rw [List.take_of_length_le (by rw [Array.length_toList];omega)]at ht;rw [hgg,Array.toList_inj.1 ht]
 have hsz:w.heap.size<w0.heap.size:=(Array.getElem?_eq_some_iff.1 hg).1;clear hgrow0 hown0;go_ret;refine⟨w0.heap.size,w.heap.size,rfl,Cj.made (heap_alloc_new w0 _) (by omega) ((heap_alloc_old w0 _ hsz).trans hg),by omega,Ad _,hb0.alloc (by omega) _⟩
theorem fO(d:Nat)(off x:Int)(w:World):
 Calls Tryz.prog 98 #[.pointer (some ⟨d,0,none⟩),.int .i64 off,.int .u64 x] w fun e w'=>e= .returned (.func (.func 144) #[] #[.pointer (some ⟨w.heap.size,0,none⟩),.pointer (some ⟨w.heap.size+1,0,none⟩),.pointer (some ⟨w.heap.size+1+1,0,none⟩)])/\
  w'=((w.alloc (.cells #[.pointer (some ⟨d,0,none⟩)] 27)).alloc (.cells #[.int .i64 off] 3)).alloc (.cells #[.int .u64 x] 23):=by
 go_enter Tryz.func98,Tryz.ntmps98;go_wp2;go_ret;exact⟨rfl,rfl⟩
theorem fP(d:Nat)(off:Int)(w:World):
 Calls Tryz.prog 99 #[.pointer (some ⟨d,0,none⟩),.int .i64 off] w fun e w'=>e= .returned (.func (.func 145) #[] #[.pointer (some ⟨w.heap.size,0,none⟩),.pointer (some ⟨w.heap.size+1,0,none⟩)])/\
  w'=(w.alloc (.cells #[.pointer (some ⟨d,0,none⟩)] 27)).alloc (.cells #[.int .i64 off] 3):=by
 go_enter Tryz.func99,Tryz.ntmps99;go_wp2;go_ret;exact⟨rfl,rfl⟩
theorem YQ(d L g off n:Nat)(v2 v3:Value)(w:World)(hL0:1<=L)(hL:L<=1024)(h:BH w d 105 [.slice (some ⟨g,0,none⟩) L L,.bool false,v2,v3])(h8:off%8=0)(hn:off+8*n<=L*64):
 Calls Tryz.prog 117 #[.pointer (some ⟨d,0,none⟩),.int .i64 (off:Int),.int .i64 (n:Int)] w fun e w'=>e= .returned (.int .i64 0)/\w=w':=by
 have hs:=Wp d L g (.bool false) v2 v3 w hL h;have HS:=Aa hs;obtain⟨N,hN⟩:∃N,N=L*64:=⟨_,rfl⟩;rw [<-hN]at hs HS hn;have t1:((N:Int)==0)=false:=by rw [beq_eq_false_iff_ne];omega
 have t2:decide ((off:Int)<0)=false:=decide_eq_false (by omega);have t3:decide ((N:Int)<(off:Int))=false:=decide_eq_false (by omega);have t4:((off:Int)%8 !=0)=false:=by
  have:(off:Int)%8=0:=by omega
  rw [this];rfl
 have t5:decide ((n:Int)<0)=false:=decide_eq_false (by omega);have t6:decide (((N:Int) - (off:Int))/8<(n:Int))=false:=decide_eq_false (by omega);have hN2:N<=65536:=by omega
 have hle:off<=N:=by omega
 clear hs h;go_enter Tryz.func117,Tryz.ntmps117
 go_wp2_with fail
 refine HS.out.mono ?_;rintro e w'⟨rfl,rfl⟩;clear HS hN
 go_wp2_with fail
 go_ret;exact⟨rfl,rfl⟩
theorem WC{Q:Ending->World->Prop}(b1 b2 b3:Nat)(D:Value)(off x:Int)(w:World)(h1:w.cell? ⟨b1,0,none⟩=some D)(hD:∃A,D= .pointer A)(h2:w.cell? ⟨b2,0,none⟩=some (.int .i64 off))(h3:w.cell? ⟨b3,0,none⟩=some (.int .u64 x))
 (hc:Calls Tryz.prog 11 #[D,.int .i64 off,.int .u64 x] w fun e w'=>e= .returned (.int .i64 0)/\Q e w'):
 Calls Tryz.prog 144 #[.pointer (some ⟨b1,0,none⟩),.pointer (some ⟨b2,0,none⟩),.pointer (some ⟨b3,0,none⟩)] w fun e w'=>e= .returned (.int .i64 0)/\Q e w':=by
 obtain⟨A,rfl⟩:=hD;have HC:=Aa hc;clear hc;go_enter Tryz.func144,Tryz.ntmps144
 go_wp2_with fail
 refine HC.out.mono ?_;rintro e w'⟨rfl,hq⟩
 go_wp2_with fail
 go_ret;exact⟨rfl,hq⟩
theorem WE{Q:Ending->World->Prop}(b1 b2:Nat)(D:Value)(off:Int)(w:World)(h1:w.cell? ⟨b1,0,none⟩=some D)(hD:∃A,D= .pointer A)(h2:w.cell? ⟨b2,0,none⟩=some (.int .i64 off))
 (hc:Calls Tryz.prog 146 #[D,.int .i64 off] w fun e w'=>e= .returned (.int .i64 0)/\Q e w'):
 Calls Tryz.prog 145 #[.pointer (some ⟨b1,0,none⟩),.pointer (some ⟨b2,0,none⟩)] w fun e w'=>e= .returned (.int .i64 0)/\Q e w':=by
 obtain⟨A,rfl⟩:=hD;have HC:=Aa hc;clear hc;go_enter Tryz.func145,Tryz.ntmps145
 go_wp2_with fail
 refine HC.out.mono ?_;rintro e w'⟨rfl,hq⟩
 go_wp2_with fail
 go_ret;exact⟨rfl,hq⟩
theorem YR(A:Option Addr)(n c:Nat)(Fs:Nat->Nat)(af caps:Nat->Array Value)(I:Nat->World->Prop)(w:World)(hn:n<=1000000)(h0:I 0 w)
 (hf:∀k,k<n->∀W,(callFunc (Fs k) (af k++caps k)).run Tryz.prog W= .ok (.enter (Fs k) (af k++caps k)) W)
 (hrd:∀k W,I k W->Rd W A n ((Dn n).map fun k=>Value.func (.func (Fs k)) (af k) (caps k)))
 (hst:∀k W,k<n->I k W->Calls Tryz.prog (Fs k) (af k++caps k) W fun e w'=>e= .returned (.int .i64 0)/\I (k+1) w'):
 Calls Tryz.prog 97 #[.slice A n c] w fun e w'=>e= .returned (.int .i64 0)/\I n w':=by
 have HRD:=Aa hrd;have HST:=Aa hst;have HFF:=Aa hf;clear hrd hst hf;go_enter Tryz.func97,Tryz.ntmps97
 go_wp2_with fail
 go_loopw [8](fun i wr=>∃k:Nat,k<=n/\i= .int .i64 k/\I k wr)(fun i _=>n- (intOf i).toNat)
 case atStart=>exact⟨0,BA _,rfl,h0⟩
 case round=>
  obtain⟨k,hk,rfl,hI⟩:=hrel;by_cases hlt:k<n
  ·obtain⟨b,off,rfl,hb,hcl⟩:=(HRD.out k wr hI).2 (by omega);have hc:=hcl k hlt;simp only [BC,List.getElem?_range hlt,Dh]at hc;have hcall:=HST.out k wr hlt hI;have HC:=Aa hcall;have hcf:=HFF.out k hlt;clear hcl hcall h0
   go_wp2_with fail
   refine HC.out.mono ?_;rintro e w2⟨rfl,hI2⟩;clear HC hc hcf
   go_wp2_with fail
   go_roundw
   case rel=>exact⟨k+1,by omega,by go_num,hI2⟩
   case measure=>simp [intOf];omega
  ·have hkn:k=n:=by omega
   subst hkn
   go_wp2_with fail
   go_ret;exact⟨rfl,hI⟩
def Dv(w0:World)(d L g:Nat)(hb0:Nat->Option Nat)(ws:Nat->UInt64)(len mark:Nat->Nat)(W:World):Prop:=
 ∃hb,(∀b,EO d L g hb b->EO d L g hb0 b\/w0.heap.size<=b)/\Cj W d L ws len mark g hb/\Touch (EO d L g hb0) w0 W
theorem Dv.start{w0 W:World}{d L g:Nat}{hb0:Nat->Option Nat}{ws:Nat->UInt64}{len mark:Nat->Nat}(h:Cj w0 d L ws len mark g hb0)(hb:Below w0.heap.size w0 W):Dv w0 d L g hb0 ws len mark W:=
 ⟨hb0,fun _ h=> .inl h,h.below hb,Touch.of_below hb⟩
theorem fQ{w0 W:World}{d L g:Nat}{hb0:Nat->Option Nat}{ws:Nat->UInt64}{len mark:Nat->Nat}(h:Dv w0 d L g hb0 ws len mark W)(hL:L<=1024)(j:Nat)(x:UInt64)(hj:j<8*L)(hlen:len (j/8)<=1000000):
 Calls Tryz.prog 11 #[.pointer (some ⟨d,0,none⟩),.int .i64 ((8*j:Nat):Int),.int .u64 (x.toNat:Int)] W fun e w'=>e= .returned (.int .i64 0)/\
  ∃len',(len'=len\/len'=fun k=>if k=j/8 then len (j/8)+1 else len k)/\Dv w0 d L g hb0 (fun i=>if i=j then x else ws i) len' mark w':=by
 obtain⟨hb,ho,hr,ht⟩:=h;by_cases he:ws j=x
 ·subst he;refine(lg d L ws len mark g hb j W hL hr hj).mono ?_;rintro e w'⟨rfl,st,rfl⟩;refine⟨rfl,len,.inl rfl,hb,ho,?_,ht.setCell (.inl (.inl rfl)) _⟩;rw [show(fun i=>if i=j then ws j else ws i)=ws by funext i;by_cases e:i=j<;>simp [e]];exact hr.step st
 ·refine(sJ d L ws len mark g hb j x W hL hr hj he hlen).mono ?_;rintro e w'⟨rfl,g2,hg2,hr2,ht2⟩;refine⟨rfl,_,.inr rfl,_,fun b hb'=> ?_,hr2,ht.trans ht2 (fun b h=>ho b h)⟩;rcases hb' with h| h| ⟨i,hi,h⟩
  ·exact .inl (.inl h)
  ·exact .inl (.inr (.inl h))
  ·change(if i=j/8 then some g2 else hb i)=some b at h;by_cases e:i=j/8
   ·rw [if_pos e]at h;injection h with h
    subst h;rcases hg2 with hg2| hg2
    ·exact ho _ (.inr (.inr ⟨j/8,by omega,hg2⟩))
    ·exact .inr (AL ht.size hg2)
   ·rw [if_neg e]at h;exact ho _ (.inr (.inr ⟨i,hi,h⟩))
theorem fU{w0 W:World}{d L g:Nat}{hb0:Nat->Option Nat}{ws:Nat->UInt64}{len mark:Nat->Nat}(h:Dv w0 d L g hb0 ws len mark W)(hL:L<=1024)(off:Nat)(hj:off<64*L)(hlen:len (off/64)<=1000001):
 Calls Tryz.prog 146 #[.pointer (some ⟨d,0,none⟩),.int .i64 (off:Int)] W fun e w'=>e= .returned (.int .i64 0)/\
  Dv w0 d L g hb0 ws len (fun k=>if k=off/64 then len (off/64)+1 else mark k) w':=by
 obtain⟨hb,ho,hr,ht⟩:=h;refine(sK d L ws len mark g hb off W hL hr hj hlen).mono ?_;rintro e w'⟨rfl,hr2,ht2⟩;exact⟨rfl,hb,ho,hr2,ht.trans ht2 (fun b h=>ho b h)⟩
theorem fV{w0 W:World}{d L g:Nat}{hb0:Nat->Option Nat}{ws:Nat->UInt64}{len mark:Nat->Nat}(h:Dv w0 d L g hb0 ws len mark W)(hL:L<=1024)(hL0:0<L)
 (hm:∀i,i<L->mark i=0\/mark i=len i+1)(hlen:∀i,i<L->len i<=1000000):
 Calls Tryz.prog 100 #[.pointer (some ⟨d,0,none⟩)] W fun e w'=>e= .returned (.int .i64 0)/\
  Dv w0 d L g hb0 ws (NP L len mark) (IX L mark) w':=by
 obtain⟨hb,ho,hr,ht⟩:=h;refine(sS d L ws len mark g hb W hL hL0 hr hm hlen).mono ?_;rintro e w'⟨rfl,hr2,ht2⟩;refine⟨rfl,_,fun b hb'=> ?_,hr2,ht.trans ht2 (fun b h=>ho b h)⟩;rcases hb' with h| h| ⟨i,hi,h⟩
 ·exact .inl (.inl h)
 ·exact .inl (.inr (.inl h))
 ·unfold J6 at h;by_cases e:i<L/\mark i≠0
  ·rw [if_pos e]at h;cases h
  ·rw [if_neg e]at h;exact ho _ (.inr (.inr ⟨i,hi,h⟩))
def Ym(W0:World)(d L g:Nat)(hb:Nat->Option Nat)(ws:Nat->UInt64)(j:Nat)(x:UInt64)(k:Nat)(W:World):Prop:=
 match k with
 | 0=>Dv W0 d L g hb ws (fun _=>0) (fun _=>0) W
 | 1=>∃m,m<=1/\Dv W0 d L g hb (fun i=>if i=j then x else ws i) (fun k=>if k=j/8 then m else 0) (fun _=>0) W
 | 2=>∃m,m<=1/\Dv W0 d L g hb (fun i=>if i=j then x else ws i) (fun k=>if k=j/8 then m else 0) (fun k=>if k=j/8 then m+1 else 0) W
 | _=>Dv W0 d L g hb (fun i=>if i=j then x else ws i) (fun _=>0) (fun _=>0) W
theorem WG{W0:World}{d L g:Nat}{hb:Nat->Option Nat}{ws:Nat->UInt64}{j:Nat}{x:UInt64}{k:Nat}{W:World}(h:Ym W0 d L g hb ws j x k W):Touch (EO d L g hb) W0 W:=by
 match k,h with
 | 0,⟨_,_,_,t⟩=>exact t
 | 1,⟨_,_,_,_,_,t⟩=>exact t
 | 2,⟨_,_,_,_,_,t⟩=>exact t
 | _+3,⟨_,_,_,t⟩=>exact t
theorem Aht{W0 W:World}{d L g:Nat}{hb:Nat->Option Nat}{ws:Nat->UInt64}{j:Nat}{x:UInt64}(hL:L<=1024)(hj:j<8*L)(h:Ym W0 d L g hb ws j x 0 W):
 Calls Tryz.prog 11 #[.pointer (some ⟨d,0,none⟩),.int .i64 ((8*j:Nat):Int),.int .u64 (x.toNat:Int)] W fun e w'=>e= .returned (.int .i64 0)/\Ym W0 d L g hb ws j x 1 w':=by
 refine(fQ (len:=fun _=>0) (mark:=fun _=>0) h hL j x hj (BA _)).mono ?_;rintro e w'⟨rfl,len',hl,hd⟩;refine⟨rfl,?_⟩;rcases hl with rfl| rfl
 ·exact⟨0,by omega,by simpa using hd⟩
 ·exact⟨1,by omega,by simpa using hd⟩
theorem Ahu{W0 W:World}{d L g:Nat}{hb:Nat->Option Nat}{ws:Nat->UInt64}{j:Nat}{x:UInt64}(hL:L<=1024)(hj:j<8*L)(h:Ym W0 d L g hb ws j x 1 W):
 Calls Tryz.prog 146 #[.pointer (some ⟨d,0,none⟩),.int .i64 ((8*j:Nat):Int)] W fun e w'=>e= .returned (.int .i64 0)/\Ym W0 d L g hb ws j x 2 w':=by
 obtain⟨m,hm,h⟩:=h;have e8:8*j/64=j/8:=by omega
 refine(fU h hL (8*j) (by omega) (by rw [e8,if_pos rfl];omega)).mono ?_;rintro e w'⟨rfl,hd⟩;rw [e8]at hd;exact⟨rfl,m,hm,by simpa using hd⟩
theorem Ahv{W0 W:World}{d L g:Nat}{hb:Nat->Option Nat}{ws:Nat->UInt64}{j:Nat}{x:UInt64}(hL:L<=1024)(hL0:0<L)(hj:j<8*L)(h:Ym W0 d L g hb ws j x 2 W):
 Calls Tryz.prog 100 #[.pointer (some ⟨d,0,none⟩)] W fun e w'=>e= .returned (.int .i64 0)/\Ym W0 d L g hb ws j x 3 w':=by
 obtain⟨m,hm,h⟩:=h;refine(fV h hL hL0 (fun i _=>by by_cases e:i=j/8<;>simp [e]) (fun i _=>by by_cases e:i=j/8<;>simp [e];omega)).mono ?_;rintro e w'⟨rfl,hb',ho,hr,ht⟩;refine⟨rfl,hb',ho,?_,ht⟩;have e1:(fun i=>NP L (fun k=>if k=j/8 then m else 0) (fun k=>if k=j/8 then m+1 else 0) i)=fun _=>0:=by
  funext i;unfold NP;by_cases e:i=j/8
  ·subst e;rw [if_pos ⟨by omega,by simp⟩]
  ·simp [e]
 have e2:(fun i=>IX L (fun k=>if k=j/8 then m+1 else 0) i)=fun _=>0:=by
  funext i;unfold IX;by_cases e:i=j/8
  ·subst e;rw [if_pos (by omega)]
  ·simp [e]
 have e1':NP L (fun k=>if k=j/8 then m else 0) (fun k=>if k=j/8 then m+1 else 0)=fun _=>0:=e1
 have e2':IX L (fun k=>if k=j/8 then m+1 else 0)=fun _=>0:=e2
 rw [e1',e2']at hr;exact hr
theorem SN(l:Array Value)(W:World):(callFunc 144 l).run Tryz.prog W= .ok (.enter 144 l) W:=by
 simp [callFunc,Tryz.func144,Tryz.f144]
theorem SQ(l:Array Value)(W:World):(callFunc 145 l).run Tryz.prog W= .ok (.enter 145 l) W:=by
 simp [callFunc,Tryz.func145,Tryz.f145]
theorem SS(l:Array Value)(W:World):(callFunc 100 l).run Tryz.prog W= .ok (.enter 100 l) W:=by
 simp [callFunc,Tryz.func100,Tryz.f100]
theorem Abq(d L g:Nat)(hb:Nat->Option Nat)(ws:Nat->UInt64)(j:Nat)(x:UInt64)(w W0:World)(hL0:0<L)(hL:L<=1024)(h:Cj w d L ws (fun _=>0) (fun _=>0) g hb)(hj:j<8*L)(hB:Below w.heap.size w W0)
 (b1 b2 b3 b4 b5 s:Nat)(T:TypeId)(hb1:w.heap.size<=b1)(hb2:w.heap.size<=b2)(hb3:w.heap.size<=b3)(hb4:w.heap.size<=b4)(hb5:w.heap.size<=b5)(hs:w.heap.size<=s)
 (c1:W0.cell? ⟨b1,0,none⟩=some (.pointer (some ⟨d,0,none⟩)))(c2:W0.cell? ⟨b2,0,none⟩=some (.int .i64 ((8*j:Nat):Int)))(c3:W0.cell? ⟨b3,0,none⟩=some (.int .u64 (x.toNat:Int)))
 (c4:W0.cell? ⟨b4,0,none⟩=some (.pointer (some ⟨d,0,none⟩)))(c5:W0.cell? ⟨b5,0,none⟩=some (.int .i64 ((8*j:Nat):Int)))
 (cs:W0.heap[s]? =some (.cells #[.func (.func 144) #[] #[.pointer (some ⟨b1,0,none⟩),.pointer (some ⟨b2,0,none⟩),.pointer (some ⟨b3,0,none⟩)],.func (.func 145) #[] #[.pointer (some ⟨b4,0,none⟩),.pointer (some ⟨b5,0,none⟩)],.func (.func 100) #[.pointer (some ⟨d,0,none⟩)] #[]] T (0,0))):
 Calls Tryz.prog 97 #[.slice (some ⟨s,0,none⟩) 3 3] W0 fun e w'=>e= .returned (.int .i64 0)/\Ym W0 d L g hb ws j x 3 w':=by
 have hown:∀b,w.heap.size<=b->¬EO d L g hb b:=fun b hle ho=>by have:=h.lt b ho;omega
 have keep:∀{k W},Ym W0 d L g hb ws j x k W->∀(b:Nat)(v:Value),w.heap.size<=b->W0.cell? ⟨b,0,none⟩=some v->W.cell? ⟨b,0,none⟩=some v:=fun hi b v hle hc=>
  (World.cell?_of_block (a:=⟨b,0,none⟩) ((WG hi).block b (World.block_lt_of_cell? W0 ⟨b,0,none⟩ hc) (hown b hle))).trans hc
 refine YR _ 3 3 (fun k=>if k=0 then 144 else if k=1 then 145 else 100)
  (fun k=>if k=2 then#[.pointer (some ⟨d,0,none⟩)]else#[])
  (fun k=>if k=0 then#[.pointer (some ⟨b1,0,none⟩),.pointer (some ⟨b2,0,none⟩),.pointer (some ⟨b3,0,none⟩)]else if k=1 then#[.pointer (some ⟨b4,0,none⟩),.pointer (some ⟨b5,0,none⟩)]else#[])
  (Ym W0 d L g hb ws j x) W0 (by decide) (Dv.start (h.below hB) (Below.refl _ _)) ?_ ?_ ?_
 ·intro k hk W
  match k,hk with
  | 0,_=>exact SN _ W
  | 1,_=>exact SQ _ W
  | 2,_=>exact SS _ W
 ·intro k W hi;have hcs:=((WG hi).block s (Array.getElem?_eq_some_iff.1 cs).1 (hown s hs)).trans cs;refine⟨rfl,fun _=>⟨s,0,rfl,(Array.getElem?_eq_some_iff.1 hcs).1,fun t ht=> ?_⟩⟩;rw [Nat.zero_add,cell_of_row W s t _ T (0,0) hcs]
  match t,ht with
  | 0,_=>rfl
  | 1,_=>rfl
  | 2,_=>rfl
 ·intro k W hk hi
  match k,hk with
  | 0,_=>exact WC b1 b2 b3 _ _ _ W (keep hi _ _ hb1 c1) ⟨_,rfl⟩ (keep hi _ _ hb2 c2) (keep hi _ _ hb3 c3) (Aht hL hj hi)
  | 1,_=>exact WE b4 b5 _ _ W (keep hi _ _ hb4 c4) ⟨_,rfl⟩ (keep hi _ _ hb5 c5) (Ahu hL hj hi)
  | 2,_=>exact Ahv hL hL0 hj hi
theorem Dv.back{w W0 W:World}{d L g:Nat}{hb:Nat->Option Nat}{ws:Nat->UInt64}{len mark:Nat->Nat}(h:Dv W0 d L g hb ws len mark W)(hB:Below w.heap.size w W0):Dv w d L g hb ws len mark W:=by
 obtain⟨hb',ho,hr,ht⟩:=h;exact⟨hb',fun b h=>(ho b h).imp id (fun e=>AL hB.size e),hr,(Touch.of_below hB).trans ht (fun b h=> .inl h)⟩
theorem Abr(d L g:Nat)(hb:Nat->Option Nat)(ws:Nat->UInt64)(j:Nat)(x:UInt64)(w:World)(hL0:0<L)(hL:L<=1024)(h:Cj w d L ws (fun _=>0) (fun _=>0) g hb)(hj:j<8*L):
 Calls Tryz.prog 50 #[.pointer (some ⟨d,0,none⟩),.int .i64 ((8*j:Nat):Int),.int .u64 (x.toNat:Int)] w fun e w'=>e= .returned (.int .i64 0)/\
  Dv w d L g hb (fun i=>if i=j then x else ws i) (fun _=>0) (fun _=>0) w':=by
 have H:=Aa h;clear h;go_enter Tryz.func50,Tryz.ntmps50
 go_wp2_with fail
 refine(fO d _ _ w).mono ?_;rintro e w'⟨rfl,rfl⟩
 go_wp2_with fail
 refine(fP d _ _).mono ?_;rintro e w'⟨rfl,rfl⟩
 go_wp2_with fail
 have hB:=((((((Below.refl w.heap.size w).alloc (Ad _) (.cells #[.pointer (some ⟨d,0,none⟩)] 27)).alloc (by simp) (.cells #[.int .i64 (8*(j:Int))] 3)).alloc (by simp;omega) (.cells #[.int .u64 (x.toNat:Int)] 23)).alloc (by simp;omega) (.cells #[.pointer (some ⟨d,0,none⟩)] 27)).alloc (by simp;omega) (.cells #[.int .i64 (8*(j:Int))] 3)).alloc (by simp;omega)
  (.cells #[.func (.func 144) #[] #[.pointer (some ⟨w.heap.size,0,none⟩),.pointer (some ⟨w.heap.size+1,0,none⟩),.pointer (some ⟨w.heap.size+1+1,0,none⟩)],.func (.func 145) #[] #[.pointer (some ⟨w.heap.size+1+1+1,0,none⟩),.pointer (some ⟨w.heap.size+1+1+1+1,0,none⟩)],.func (.func 100) #[.pointer (some ⟨d,0,none⟩)] #[]] 194)
 refine(Abq d L g hb ws j x w _ hL0 hL H.out hj hB w.heap.size (w.heap.size+1) (w.heap.size+1+1) (w.heap.size+1+1+1) (w.heap.size+1+1+1+1) (w.heap.size+1+1+1+1+1) 194 (by omega) (by omega) (by omega) (by omega) (by omega) (by omega) ((World.cell?_alloc_past _ _ _ (by first| (simp;done)| (simp;omega))).trans<| ((World.cell?_alloc_past _ _ _ (by first| (simp;done)| (simp;omega))).trans<| ((World.cell?_alloc_past _ _ _ (by first| (simp;done)| (simp;omega))).trans<| ((World.cell?_alloc_past _ _ _ (by first| (simp;done)| (simp;omega))).trans<| ((World.cell?_alloc_past _ _ _ (by first| (simp;done)| (simp;omega))).trans<| by simp))))) (by simp [World.cell?_alloc_past,World.cell?_alloc_at]) (by simp [World.cell?_alloc_past,World.cell?_alloc_at]) (by simp [World.cell?_alloc_past,World.cell?_alloc_at]) (by simp [World.cell?_alloc_past,World.cell?_alloc_at]) (by rw [show w.heap.size+1+1+1+1+1=((((((w.alloc (.cells #[.pointer (some ⟨d,0,none⟩)] 27)).alloc (.cells #[.int .i64 (8*(j:Int))] 3)).alloc (.cells #[.int .u64 (x.toNat:Int)] 23)).alloc (.cells #[.pointer (some ⟨d,0,none⟩)] 27)).alloc (.cells #[.int .i64 (8*(j:Int))] 3))).heap.size by simp];exact heap_alloc_new _ _)).mono ?_;rintro e w'⟨rfl,hp⟩;have hd:=Dv.back (w:=w) hp hB;clear hp hB H
 go_wp2_with fail
 go_ret;exact⟨rfl,hd⟩
def NQ(ws:Nat->UInt64)(j n:Nat):List UInt64:=(Dn n).map fun t=>ws (j+t)
def GK(ws:Nat->UInt64)(j n k:Nat):List UInt64:=(Dn n).map fun t=>if t<k then ws (j+t)else 0
theorem Yn(ws:Nat->UInt64)(j n:Nat):GK ws j n 0=Bf n 0:=by
 apply DX<;>simp [GK]
theorem ag(ws:Nat->UInt64)(j n:Nat):GK ws j n n=NQ ws j n:=by
 apply DX
 ·simp [GK,NQ]
 ·intro t h1 h2;have:t<n:=by simpa [GK]using h1
  simp [GK,NQ,this]
theorem ai(ws:Nat->UInt64)(j n k:Nat):((GK ws j n k).map wv).set k (wv (ws (j+k)))=(GK ws j n (k+1)).map wv:=by
 rw [<-List.map_set];congr 1;apply DX
 ·simp [GK]
 ·intro t h1 h2;rw [Je];by_cases e:k=t
  ·subst e;rw [if_pos rfl];simp [GK]
  ·rw [if_neg e];have:(t<k+1)=(t<k):=by apply propext;omega
   simp [GK,this]
theorem aj(d L:Nat)(ws:Nat->UInt64)(len mark:Nat->Nat)(g:Nat)(hb:Nat->Option Nat)(j n:Nat)(w:World)(hL0:0<L)(hL:L<=1024)(h:Cj w d L ws len mark g hb)(hj:j+n<=8*L):
 Calls Tryz.prog 68 #[.pointer (some ⟨d,0,none⟩),.int .i64 ((8*j:Nat):Int),.int .i64 (n:Int)] w fun e w'=>∃v,e= .returned (.tuple #[v,.int .i64 0])/\
  w'.ownsRow w.heap.size 23 1 v n ((NQ ws j n).map wv)/\Below w.heap.size w w':=by
 obtain⟨i0,hi,hz0,hz1,hz2⟩:=info_parts Tryz.H8.hi;obtain⟨st,hbx⟩:=h.box;have HW:=Aa (YQ d L g (8*j) n _ _ w (by omega) hL hbx (by omega) (by omega));have H:=Aa h;clear h hbx;go_enter Tryz.func68,Tryz.ntmps68
 go_wp2_with fail
 refine HW.out.mono ?_;rintro e w'⟨rfl,rfl⟩;clear HW
 go_wp2_with(at_make;refine wpList_make_full _ rfl _ _ 129 rfl w.heap.size 23 i0 (.int .u64 0) 1 Tryz.underlying129 hi hz0 hz1 .i64 .i64 _ _ n rfl rfl rfl rfl (by rw [hz2];omega) (by unfold maxLen;omega) (Ad _) ?_;intro w0 hown0 hgrow0)
 rw [J9,<-Yn ws j n]at hown0;have hb0:Below w.heap.size w w0:=(Below.refl _ _).grown hgrow0 (Ad _) (by simp);clear hgrow0
 go_loopw [24](fun i wr=>∃k:Nat,k<=n/\i= .int .i64 k/\wr.ownsRow w.heap.size 23 1 (.slice (some ⟨w.heap.size,0,none⟩) n n) n ((GK ws j n k).map wv)/\Below w.heap.size w wr)(fun i _=>n- (intOf i).toNat)
 case atStart=>exact⟨0,BA _,rfl,hown0,hb0⟩
 case round=>
  obtain⟨k,hk,rfl,hown,hbr⟩:=hrel;clear hown0 hb0;by_cases hlt:k<n
  ·have HL:=Aa (SH d L ws len mark g hb (j+k) wr hL (H.out.below hbr) (by omega));obtain⟨⟨v0,hv0⟩,hf0⟩:=Qq hown hlt;have hown2:=MW (u:=wv (ws (j+k))) hown hlt;rw [ai]at hown2;have HO:=Aa hown2;have hb2:=hbr.setCell (p:=⟨w.heap.size,k,none⟩) (Ad _) (wv (ws (j+k)));have HB:=Aa hb2;clear hown hown2 hb2 hbr
   go_wp2_with fail
   rw [show(8*(j:Int)+8*(k:Int))=((8*(j+k):Nat):Int)by omega];refine HL.out.mono ?_;rintro e w2⟨rfl,rfl⟩;clear HL
   go_wp2_with fail
   go_roundw
   case rel=>exact⟨k+1,by omega,by go_num,HO.out,HB.out⟩
   case measure=>simp [intOf];omega
  ·have hkn:k=n:=by omega
   subst hkn;rw [ag]at hown
   go_wp2_with fail
   go_ret2;exact⟨_,rfl,hown,hbr⟩
def SV(w:World)(B d:Nat)(v:Value)(j:Nat)(x:UInt64):Prop:=
 ∃b1 b2 b3,v= .func (.func 144) #[] #[.pointer (some ⟨b1,0,none⟩),.pointer (some ⟨b2,0,none⟩),.pointer (some ⟨b3,0,none⟩)]/\B<=b1/\B<=b2/\B<=b3/\
  w.heap[b1]? =some (.cells #[.pointer (some ⟨d,0,none⟩)] 27 (0,0))/\w.heap[b2]? =some (.cells #[.int .i64 ((8*j:Nat):Int)] 3 (0,0))/\w.heap[b3]? =some (.cells #[.int .u64 (x.toNat:Int)] 23 (0,0))
def WH(w:World)(B d:Nat)(v:Value)(off:Nat):Prop:=
 ∃b1 b2,v= .func (.func 145) #[] #[.pointer (some ⟨b1,0,none⟩),.pointer (some ⟨b2,0,none⟩)]/\B<=b1/\B<=b2/\
  w.heap[b1]? =some (.cells #[.pointer (some ⟨d,0,none⟩)] 27 (0,0))/\w.heap[b2]? =some (.cells #[.int .i64 (off:Int)] 3 (0,0))
def OX(T:TypeId)(w w':World):Prop:=∀(b:Nat)(cs:Array Value)(t:TypeId)(fz:Nat×Nat),t≠T->w.heap[b]? =some (.cells cs t fz)->w'.heap[b]? =some (.cells cs t fz)
theorem OX.below{T:TypeId}{w w':World}(h:Below w.heap.size w w'):OX T w w':=fun b _ _ _ _ e=>(h.block b (Array.getElem?_eq_some_iff.1 e).1).trans e
theorem SV.stays{w w':World}{B d:Nat}{v:Value}{j:Nat}{x:UInt64}(h:SV w B d v j x)(k:OX 194 w w'):SV w' B d v j x:=by
 obtain⟨b1,b2,b3,e,h1,h2,h3,c1,c2,c3⟩:=h;exact⟨b1,b2,b3,e,h1,h2,h3,k _ _ _ _ (by decide) c1,k _ _ _ _ (by decide) c2,k _ _ _ _ (by decide) c3⟩
theorem WH.stays{w w':World}{B d:Nat}{v:Value}{off:Nat}(h:WH w B d v off)(k:OX 194 w w'):WH w' B d v off:=by
 obtain⟨b1,b2,e,h1,h2,c1,c2⟩:=h;exact⟨b1,b2,e,h1,h2,k _ _ _ _ (by decide) c1,k _ _ _ _ (by decide) c2⟩
theorem Tryz.ak:KC Tryz.prog 240 194 .nilFunc 8:=⟨Tryz.underlying240,by kernel_rfl,rfl⟩
theorem OX.kept{T:TypeId}{w w':World}{base n:Nat}{v:Value}{xs:List Value}(ho:w.ownsRow base T 1 v n xs)(h:Kept w w' v.ownBlock):OX T w w':=by
 intro b cs t fz ht e;refine(h.2 b (Array.getElem?_eq_some_iff.1 e).1 (fun hb=> ?_)).trans e;rcases ho.2 with⟨rfl,_⟩| ⟨g,cap,cur,rfl,_,hg,_⟩
 ·cases hb
 ·have:b=g:=by simpa [Value.ownBlock]using hb
  subst this;rw [e]at hg;injection hg with hg
  injection hg with _ h2 _
  exact ht h2
theorem Yo(B d j:Nat)(x:UInt64)(w:World)(hB:B<=w.heap.size):
 Calls Tryz.prog 98 #[.pointer (some ⟨d,0,none⟩),.int .i64 ((8*j:Nat):Int),.int .u64 (x.toNat:Int)] w fun e w'=>∃v,e= .returned v/\SV w' B d v j x/\v.oneCell'=true/\Below w.heap.size w w':=by
 refine(fO d _ _ w).mono ?_;rintro e w'⟨rfl,rfl⟩;have s1:(w.alloc (.cells #[.pointer (some ⟨d,0,none⟩)] 27)).heap.size=w.heap.size+1:=by simp
 have s2:((w.alloc (.cells #[.pointer (some ⟨d,0,none⟩)] 27)).alloc (.cells #[.int .i64 ((8*j:Nat):Int)] 3)).heap.size=w.heap.size+1+1:=by simp
 refine⟨_,rfl,⟨w.heap.size,w.heap.size+1,w.heap.size+1+1,rfl,hB,by omega,by omega,?_,?_,?_⟩,rfl,(((Below.refl _ _).alloc (Ad _) _).alloc (by omega) _).alloc (by omega) _⟩
 ·exact(heap_alloc_old _ _ (by omega)).trans ((heap_alloc_old _ _ (by omega)).trans (heap_alloc_new _ _))
 ·refine(heap_alloc_old _ _ (by omega)).trans ?_;rw [<-s1];exact heap_alloc_new _ _
 ·rw [<-s2];exact heap_alloc_new _ _
theorem Yp(B d off:Nat)(w:World)(hB:B<=w.heap.size):
 Calls Tryz.prog 99 #[.pointer (some ⟨d,0,none⟩),.int .i64 (off:Int)] w fun e w'=>∃v,e= .returned v/\WH w' B d v off/\v.oneCell'=true/\Below w.heap.size w w':=by
 refine(fP d _ w).mono ?_;rintro e w'⟨rfl,rfl⟩;have s1:(w.alloc (.cells #[.pointer (some ⟨d,0,none⟩)] 27)).heap.size=w.heap.size+1:=by simp
 refine⟨_,rfl,⟨w.heap.size,w.heap.size+1,rfl,hB,by omega,?_,?_⟩,rfl,((Below.refl _ _).alloc (Ad _) _).alloc (by omega) _⟩
 ·exact(heap_alloc_old _ _ (by omega)).trans (heap_alloc_new _ _)
 ·rw [<-s1];exact heap_alloc_new _ _
theorem sU(ws:Nat->UInt64)(j:Nat):CP ws j []=ws:=by
 funext i;unfold CP;rw [if_neg (by simp)]
theorem lI(ws:Nat->UInt64)(j:Nat)(xs:List UInt64)(k:Nat)(hk:k<xs.length):(fun i=>if i=j+k then xs[k]else CP ws j (xs.take k) i)=CP ws j (xs.take (k+1)):=by
 funext i;unfold CP;simp only [List.length_take,Iq (Nat.le_of_lt hk),Iq (show k+1<=xs.length from hk),AZ,CG];by_cases e:i=j+k
 ·subst e;rw [if_pos rfl,if_pos (by omega),if_pos (by omega),OV,Af hk];rfl
 ·rw [if_neg e];by_cases h:j<=i/\i<j+k
  ·rw [if_pos h,if_pos (by omega),if_pos (by omega),if_pos (by omega)]
  ·rw [if_neg h,if_neg (by omega)]
def allI(W0:World)(d L g:Nat)(hb:Nat->Option Nat)(ws:Nat->UInt64)(j:Nat)(xs:List UInt64)(m k:Nat)(W:World):Prop:=
 if k<=xs.length then∃len:Nat->Nat,(∀i,len i<=k)/\(∀i,len i≠0->j/8<=i/\i<j/8+m)/\Dv W0 d L g hb (CP ws j (xs.take k)) len (fun _=>0) W
 else if k<=xs.length+m then∃len:Nat->Nat,(∀i,len i<=xs.length)/\(∀i,len i≠0->j/8<=i/\i<j/8+m)/\Dv W0 d L g hb (CP ws j xs) len (fun i=>if j/8<=i/\i<j/8+(k-xs.length)then len i+1 else 0) W
 else Dv W0 d L g hb (CP ws j xs) (fun _=>0) (fun _=>0) W
theorem WI{W0:World}{d L g:Nat}{hb:Nat->Option Nat}{ws:Nat->UInt64}{j:Nat}{xs:List UInt64}{m k:Nat}{W:World}(h:allI W0 d L g hb ws j xs m k W):Touch (EO d L g hb) W0 W:=by
 unfold allI at h;split at h
 ·obtain⟨_,_,_,_,_,_,t⟩:=h;exact t
 ·split at h
  ·obtain⟨_,_,_,_,_,_,t⟩:=h;exact t
  ·obtain⟨_,_,_,t⟩:=h;exact t
section
variable{W0 W:World}{d L g:Nat}{hb:Nat->Option Nat}{ws:Nat->UInt64}{j:Nat}{xs:List UInt64}{m:Nat}
theorem sV(hL:L<=1024)(hj:j+xs.length<=8*L)(hm:∀i,j<=i->i<j+xs.length->j/8<=i/8/\i/8<j/8+m){k:Nat}(hk:k<xs.length)(h:allI W0 d L g hb ws j xs m k W):
 Calls Tryz.prog 11 #[.pointer (some ⟨d,0,none⟩),.int .i64 ((8*(j+k):Nat):Int),.int .u64 (xs[k].toNat:Int)] W fun e w'=>e= .returned (.int .i64 0)/\allI W0 d L g hb ws j xs m (k+1) w':=by
 unfold allI at h;rw [if_pos (by omega)]at h;obtain⟨len,h1,h2,h3⟩:=h;refine(fQ h3 hL (j+k) xs[k] (by omega) (by have:=h1 ((j+k)/8);omega)).mono ?_;rintro e w'⟨rfl,len',hl,hd⟩;refine⟨rfl,?_⟩;unfold allI;rw [if_pos (by omega)];rw [lI ws j xs k hk]at hd;have hmk:=hm (j+k) (by omega) (by omega);refine⟨len',fun i=> ?_,fun i hi=> ?_,hd⟩
 ·rcases hl with rfl| rfl
  ·have:=h1 i;omega
  ·show(if i=(j+k)/8 then len ((j+k)/8)+1 else len i)<=k+1;split
   ·have:=h1 ((j+k)/8);omega
   ·have:=h1 i;omega
 ·rcases hl with rfl| rfl
  ·exact h2 i hi
  ·change(if i=(j+k)/8 then len ((j+k)/8)+1 else len i)≠0 at hi;split at hi
   ·subst i;exact hmk
   ·exact h2 i hi
theorem sW(hL:L<=1024)(hj:j+xs.length<=8*L)(hm2:∀t,t<m->8*(j/8+t)<j+xs.length){t:Nat}(ht:t<m)(h:allI W0 d L g hb ws j xs m (xs.length+t) W):
 Calls Tryz.prog 146 #[.pointer (some ⟨d,0,none⟩),.int .i64 ((64*(j/8+t):Nat):Int)] W fun e w'=>e= .returned (.int .i64 0)/\allI W0 d L g hb ws j xs m (xs.length+t+1) w':=by
 have hm:=hm2 t ht;have e8:64*(j/8+t)/64=j/8+t:=by omega
 have h':∃len:Nat->Nat,(∀i,len i<=xs.length)/\(∀i,len i≠0->j/8<=i/\i<j/8+m)/\Dv W0 d L g hb (CP ws j xs) len (fun i=>if j/8<=i/\i<j/8+t then len i+1 else 0) W:=by
  unfold allI at h;by_cases h0:t=0
  ·subst h0;rw [if_pos (by omega)]at h;obtain⟨len,a,b,c⟩:=h;refine⟨len,a,b,?_⟩;rw [Nat.add_zero,List.take_length]at c;have:(fun i=>if j/8<=i/\i<j/8+0 then len i+1 else 0)=fun _=>0:=by funext i;rw [if_neg (by omega)]
   rw [this];exact c
  ·rw [if_neg (by omega),if_pos (by omega),OV]at h;exact h
 obtain⟨len,h1,h2,h3⟩:=h';refine(fU h3 hL (64*(j/8+t)) (by omega) (by have:=h1 (64*(j/8+t)/64);omega)).mono ?_;rintro e w'⟨rfl,hd⟩;refine⟨rfl,?_⟩;unfold allI;rw [if_neg (by omega),if_pos (by omega)];refine⟨len,h1,h2,?_⟩;rw [e8]at hd;have:(fun k=>if k=j/8+t then len (j/8+t)+1 else if j/8<=k/\k<j/8+t then len k+1 else 0)=(fun i=>if j/8<=i/\i<j/8+(xs.length+t+1-xs.length)then len i+1 else 0):=by
  funext i;by_cases e:i=j/8+t
  ·subst e;rw [if_pos rfl,if_pos (by omega)]
  ·rw [if_neg e];by_cases h:j/8<=i/\i<j/8+t
   ·rw [if_pos h,if_pos (by omega)]
   ·rw [if_neg h,if_neg (by omega)]
 rw [this]at hd;exact hd
theorem sZ(hL:L<=1024)(hL0:0<L)(hn:xs.length<=1000000)(hm0:0<m)(hmL:j/8+m<=L)(h:allI W0 d L g hb ws j xs m (xs.length+m) W):
 Calls Tryz.prog 100 #[.pointer (some ⟨d,0,none⟩)] W fun e w'=>e= .returned (.int .i64 0)/\allI W0 d L g hb ws j xs m (xs.length+m+1) w':=by
 unfold allI at h;rw [if_neg (by omega),if_pos (by omega),OV]at h;obtain⟨len,h1,h2,h3⟩:=h;refine(fV h3 hL hL0 (fun i _=> ?_) (fun i _=>by have:=h1 i;omega)).mono ?_
 ·by_cases e:j/8<=i/\i<j/8+m
  ·right;show(if _ then _ else _)=_;rw [if_pos e]
  ·left;show(if _ then _ else _)=_;rw [if_neg e]
 rintro e w'⟨rfl,hd⟩;refine⟨rfl,?_⟩;unfold allI;rw [if_neg (by omega),if_neg (by omega)];have e1:NP L len (fun i=>if j/8<=i/\i<j/8+m then len i+1 else 0)=fun _=>0:=by
  funext i;unfold NP;by_cases e:j/8<=i/\i<j/8+m
  ·rw [if_pos ⟨by omega,by show(if _ then _ else _)≠0;rw [if_pos e];omega⟩]
  ·rw [if_neg (by rintro⟨_,h0⟩;exact h0 (if_neg e))];by_cases h0:len i=0
   ·exact h0
   ·exact absurd (h2 i h0) e
 have e2:IX L (fun i=>if j/8<=i/\i<j/8+m then len i+1 else 0)=fun _=>0:=by
  funext i;unfold IX;by_cases e:i<L
  ·rw [if_pos e]
  ·rw [if_neg e];exact if_neg (by omega)
 rw [e1,e2]at hd;exact hd
end
def WJ:Value->Array Value
 | .func _ _ c=>c
 | _=> #[]
theorem lJ(d L g:Nat)(hb:Nat->Option Nat)(ws:Nat->UInt64)(j m:Nat)(xs:List UInt64)(w W0:World)(hL0:0<L)(hL:L<=1024)(h:Cj w d L ws (fun _=>0) (fun _=>0) g hb)(hj:j+xs.length<=8*L)(hB:Below w.heap.size w W0)
 (hm0:0<m)(hn0:0<xs.length)(hm:∀i,j<=i->i<j+xs.length->j/8<=i/8/\i/8<j/8+m)(hm2:∀t,t<m->8*(j/8+t)<j+xs.length)
 (S:List Value)(hS1:∀t v x,t<xs.length->S[t]? =some v->xs[t]? =some x->SV W0 w.heap.size d v (j+t) x)(hS2:∀t v,t<m->S[xs.length+t]? =some v->WH W0 w.heap.size d v (64*(j/8+t)))
 (hS3:S[xs.length+m]? =some (.func (.func 100) #[.pointer (some ⟨d,0,none⟩)] #[]))(hSl:S.length=xs.length+m+1)
 (A:Option Addr)(c:Nat)(hrow:Rd W0 A (xs.length+m+1) S)(hA:∀a,A=some a->w.heap.size<=a.block):
 Calls Tryz.prog 97 #[.slice A ((xs.length+m+1:Nat)) c] W0 fun e w'=>e= .returned (.int .i64 0)/\Dv W0 d L g hb (CP ws j xs) (fun _=>0) (fun _=>0) w':=by
 have hown:∀b,w.heap.size<=b->¬EO d L g hb b:=fun b hle ho=>by have:=h.lt b ho;omega
 have hmL:j/8+m<=L:=by have:=hm2 (m-1) (by omega);omega
 have hmn:m<=xs.length:=by
  rcases Nat.lt_or_ge xs.length m with hlt| hge
  ·have:=hm2 (m-1) (by omega);omega
  ·exact hge
 have keep:∀{k W},allI W0 d L g hb ws j xs m k W->∀(b:Nat)(cs:Array Value)(t:TypeId),w.heap.size<=b->W0.heap[b]? =some (.cells cs t (0,0))->W.heap[b]? =some (.cells cs t (0,0)):=fun hi b cs t hle hc=>
  ((WI hi).block b (Array.getElem?_eq_some_iff.1 hc).1 (hown b hle)).trans hc
 have cellOf:∀{W:World}{b:Nat}{v:Value}{t:TypeId},W.heap[b]? =some (.cells #[v] t (0,0))->W.cell? ⟨b,0,none⟩=some v:=fun hc=>by rw [cell_of_row _ _ 0 _ _ (0,0) hc];rfl
 refine(YR A (xs.length+m+1) c (fun k=>if k<xs.length then 144 else if k<xs.length+m then 145 else 100)
  (fun k=>if k=xs.length+m then#[.pointer (some ⟨d,0,none⟩)]else#[]) (fun k=>WJ (S.getD k .nilFunc)) (allI W0 d L g hb ws j xs m) W0 (by omega) ?_ ?_ ?_ ?_).mono ?_
 ·unfold allI;rw [if_pos (BA _)];refine⟨fun _=>0,fun _=>Ad _,fun i hi=>absurd rfl hi,?_⟩;rw [List.take_zero,sU];exact Dv.start (h.below hB) (Below.refl _ _)
 ·intro k hk W;by_cases h1:k<xs.length
  ·simp only [if_pos h1];exact SN _ W
  ·by_cases h2:k<xs.length+m
   ·simp only [if_neg h1,if_pos h2];exact SQ _ W
   ·simp only [if_neg h1,if_neg h2];exact SS _ W
 ·intro k W hi;have hr:Rd W A (xs.length+m+1) S:=hrow.touch (WI hi) (fun a e ho=>hown _ (hA a e) ho);have hSe:S=(Dn (xs.length+m+1)).map fun k=>Value.func (.func (if k<xs.length then 144 else if k<xs.length+m then 145 else 100)) (if k=xs.length+m then#[.pointer (some ⟨d,0,none⟩)]else#[]) (WJ (S.getD k .nilFunc)):=by
   apply DX
   ·simp [hSl]
   ·intro t h1 h2;rw [List.getElem_map,List.getElem_range,AZ,Af h1];by_cases c1:t<xs.length
    ·obtain⟨b1,b2,b3,e,_⟩:=hS1 t _ _ c1 (Af h1) (Af c1);rw [if_pos c1,if_neg (by omega),e];rfl
    ·by_cases c2:t<xs.length+m
     ·obtain⟨b1,b2,e,_⟩:=hS2 (t-xs.length) S[t] (by omega) (by rw [show xs.length+(t-xs.length)=t by omega];exact Af h1);rw [if_neg c1,if_pos c2,if_neg (by omega),e];rfl
     ·have c3:t=xs.length+m:=by omega
      subst c3;rw [Af h1]at hS3;injection hS3 with hS3
      rw [if_neg c1,if_neg c2,if_pos rfl,hS3];rfl
  rw [<-hSe];exact hr
 ·intro k W hk hi;by_cases c1:k<xs.length
  ·obtain⟨b1,b2,b3,e,l1,l2,l3,k1,k2,k3⟩:=hS1 k _ _ c1 (Af (by omega)) (Af c1);simp only [if_pos c1,if_neg (show¬k=xs.length+m by omega),AZ,Af (show k<S.length by omega),NF,e,WJ];exact WC b1 b2 b3 _ _ _ W (cellOf (keep hi _ _ _ l1 k1)) ⟨_,rfl⟩ (cellOf (keep hi _ _ _ l2 k2)) (cellOf (keep hi _ _ _ l3 k3)) (sV hL hj hm c1 hi)
  ·by_cases c2:k<xs.length+m
   ·obtain⟨b1,b2,e,l1,l2,k1,k2⟩:=hS2 (k-xs.length) S[k] (by omega) (by rw [show xs.length+(k-xs.length)=k by omega];exact Af (by omega));simp only [if_neg c1,if_pos c2,if_neg (show¬k=xs.length+m by omega),AZ,Af (show k<S.length by omega),NF,e,WJ];have:=sW (W:=W) hL hj hm2 (t:=k-xs.length) (by omega) (by rw [show xs.length+(k-xs.length)=k by omega];exact hi);rw [show xs.length+(k-xs.length)+1=k+1 by omega]at this;exact WE b1 b2 _ _ W (cellOf (keep hi _ _ _ l1 k1)) ⟨_,rfl⟩ (cellOf (keep hi _ _ _ l2 k2)) this
   ·have c3:k=xs.length+m:=by omega
    subst c3;simp only [if_neg c1,if_neg c2,if_true,AZ,hS3,NF,WJ];exact sZ hL hL0 (by omega) hm0 hmL hi
 ·rintro e w'⟨rfl,hi⟩;refine⟨rfl,?_⟩;unfold allI at hi;rw [if_neg (by omega),if_neg (by omega)]at hi;exact hi
theorem WL (d L g : Nat) (hb : Nat -> Option Nat) (ws : Nat -> UInt64) (j n c : Nat) (A : Option Addr) (xs : List UInt64) (w : World) (hL0 : 0 < L) (hL : L <= 1024) (h : Cj w d L ws (fun _ => 0) (fun _ => 0) g hb) (hj : j + n <= 8 * L) (hn0 : 0 < n) (hx : Ws w A n xs) :
    Calls Tryz.prog 132 #[.pointer (some ⟨d, 0, none⟩), .int .i64 ((8 * j : Nat) : Int), .slice A n c] w fun e w' => e = .returned (.int .i64 0) /\ Dv w d L g hb (CP ws j xs) (fun _ => 0) (fun _ => 0) w' := by
  obtain ⟨st, hbx⟩ := h.box
  have HW := Aa (YQ d L g (8 * j) n _ _ w (by omega) hL hbx (by omega) (by omega))
  have H := Aa h
  have hlen := hx.len
  have HX := Aa hx
  obtain ⟨m, hm0, hm1, hm2⟩ : ∃ m, 0 < m /\ (∀ i, j <= i -> i < j + n -> j / 8 <= i / 8 /\ i / 8 < j / 8 + m) /\ (∀ t, t < m <-> 8 * (j / 8 + t) < j + n) := ⟨(j + n - 1) / 8 - j / 8 + 1, by omega, fun i h1 h2 => by omega, fun t => by omega⟩
  have t9 : decide ((0 : Int) < (n : Int)) = true := decide_eq_true (by omega)
  have HM1 := Aa hm1
  have TN := Aa hm2
  clear h hbx hx hm1 hm2
  go_enter Tryz.func132, Tryz.ntmps132
  go_wp2_with fail
  refine HW.out.mono ?_
  rintro e w' ⟨rfl, rfl⟩
  clear HW
  go_wp2_with fail
  have hB0 : Below w.heap.size w (w.alloc (.cells #[] 194)) := (Below.refl _ _).alloc (Ad _) _
  have hO0 : (w.alloc (.cells #[] 194)).ownsRow w.heap.size 194 1 (.slice (some ⟨w.heap.size, 0, none⟩) 0 0) 0 [] := World.ownsRow_made w #[] 0 (Ad _) (by decide) rfl
  go_loopw [8, 24] (fun v i wr => ∃ k S, k <= n /\ i = .int .i64 (k : Nat) /\ wr.ownsRow w.heap.size 194 1 v k S /\ (∀ t v x, S[t]? = some v -> xs[t]? = some x -> SV wr w.heap.size d v (j + t) x) /\ Below w.heap.size w wr) (fun _ i _ => n - (intOf i).toNat)
  case atStart => exact ⟨0, [], BA _, rfl, hO0, by simp, hB0⟩
  case round =>
    obtain ⟨k, S, hk, rfl, hO, hS, hB⟩ := hrel
    clear hO0 hB0
    by_cases hlt : k < n
    · obtain ⟨hkl, b0, o0, rfl, hb0, hc0⟩ := (HX.out.below hB).at hlt
      go_wp2_with fail
      rw [show (8 * (j : Int) + 8 * (k : Int)) = ((8 * (j + k) : Nat) : Int) by omega]
      refine (Yo w.heap.size d (j + k) xs[k] wr hB.size).mono ?_
      rintro e w2 ⟨v2, rfl, hs2, h1, hB2⟩
      obtain ⟨F, cap, rfl⟩ : ∃ F cap, v2 = .func F #[] cap := by obtain ⟨_, _, _, e, _⟩ := hs2; exact ⟨_, _, e⟩
      have hO2 := own_below hO hB2
      have hb2 : Below w.heap.size w w2 := hB.trans (hB2.mono hB.size)
      have hS2 : ∀ t v x, S[t]? = some v -> xs[t]? = some x -> SV w2 w.heap.size d v (j + t) x := fun t v x h1 h2 => (hS t v x h1 h2).stays (OX.below hB2)
      have HS2 := Aa hS2
      have hSl : S.length = k := by simpa using hO.1
      clear hS hB hO hB2 hS2
      go_wp2_with (at_builtin; go_loud (refine GH rfl (.tmp 29) (.tmp 37) 240 rfl Tryz.ak w2 w.heap.size u8 k S [.func F #[] cap] rfl hO2 rfl rfl rfl rfl 1 1 rfl rfl (by simpa using h1) (by simp; omega) (by decide) hb2.size ?_); intro v3 w3 hO3 hB3 hK3)
      have hst := OX.kept hO2 hK3
      go_roundw
      case rel =>
        refine ⟨k + 1, S ++ [.func F #[] cap], by omega, by go_num, hO3, fun t v x h1 h2 => ?_, hb2.trans hB3⟩
        by_cases e : t < S.length
        · rw [CE e] at h1
          exact (HS2.out t v x h1 h2).stays hst
        · have ht : t = k := by
            have := (List.getElem?_eq_some_iff.1 h1).1
            simp at this; omega
          subst ht
          rw [BX (by omega), hSl, jQ] at h1
          rw [Af hkl] at h2
          simp at h1 h2
          subst h1 h2
          exact hs2.stays hst
      case measure => simp [intOf]; omega
    · have hkn : k = n := by omega
      subst hkn
      have HS := Aa hS
      have hSl : S.length = k := by simpa using hO.1
      clear hS
      go_wp2_with fail
      rw [show (8 * (j : Int) / 64 * 64) = ((64 * (j / 8 + 0) : Nat) : Int) by omega]
      go_loopw [8, 12] (fun v i w5 => ∃ t T, t <= m /\ i = .int .i64 ((64 * (j / 8 + t) : Nat) : Int) /\ w5.ownsRow w.heap.size 194 1 v (k + t) T /\ (∀ a v x, a < k -> T[a]? = some v -> xs[a]? = some x -> SV w5 w.heap.size d v (j + a) x) /\ (∀ a v, a < t -> T[k + a]? = some v -> WH w5 w.heap.size d v (64 * (j / 8 + a))) /\ Below w.heap.size w w5) (fun _ i _ => 8 * (j + k) + 64 - (intOf i).toNat)
      case atStart => exact ⟨0, S, BA _, rfl, hO, fun a v x _ h1 h2 => HS.out a v x h1 h2, fun a v h => absurd h (by omega), hB⟩
      case round =>
        obtain ⟨t, T, htm, rfl, wO, hT1, hT2, fZ⟩ := hrel
        clear hO hB HS hSl
        have hTl : T.length = k + t := by simpa using wO.1
        have hkt : k + t <= 20000 := by
          have := TN.out (t - 1)
          omega
        by_cases hlt2 : t < m
        · have h8 := (TN.out t).1 hlt2
          have t1 : decide (((64 * (j / 8 + t) : Nat) : Int) < 8 * (j : Int) + 8 * (k : Int)) = true := decide_eq_true (by omega)
          generalize hat : 64 * (j / 8 + t) = at_ at *
          have HT1 := Aa hT1
          have HT2 := Aa hT2
          clear hT1 hT2
          go_wp2_with fail
          refine (Yp w.heap.size d at_ wr fZ.size).mono ?_
          rintro e w2 ⟨v2, rfl, hs2, h1, hB2⟩
          obtain ⟨F, cap, rfl⟩ : ∃ F cap, v2 = .func F #[] cap := by obtain ⟨_, _, e, _⟩ := hs2; exact ⟨_, _, e⟩
          have hO2 := own_below wO hB2
          have hb2 : Below w.heap.size w w2 := fZ.trans (hB2.mono fZ.size)
          have HT3 : Hid (∀ a v x, a < k -> T[a]? = some v -> xs[a]? = some x -> SV w2 w.heap.size d v (j + a) x) := Aa (fun a v x h0 h1 h2 => (HT1.out a v x h0 h1 h2).stays (OX.below hB2))
          have HT4 : Hid (∀ a v, a < t -> T[k + a]? = some v -> WH w2 w.heap.size d v (64 * (j / 8 + a))) := Aa (fun a v h0 h1 => (HT2.out a v h0 h1).stays (OX.below hB2))
          clear wO hB2 HT1 HT2
          go_wp2_with (at_builtin; go_loud (refine GH rfl (.tmp 56) (.tmp 60) 240 rfl Tryz.ak w2 w.heap.size u8 (k + t) T [.func F #[] cap] rfl hO2 rfl rfl rfl rfl 1 1 rfl rfl (by simpa using h1) (by simp; omega) (by decide) hb2.size ?_); intro v3 w3 hO3 hB3 hK3)
          have hst := OX.kept hO2 hK3
          refine ⟨⟨_, _, _, _, _, _, _, _, _, _, _, _, _, ?_, rfl⟩, ?_⟩
          · refine ⟨t + 1, T ++ [.func F #[] cap], by omega, by rw [<- hat]; go_num, by rw [<- Nat.add_assoc]; exact hO3, fun a v x h0 h1 h2 => ?_, fun a v h0 h1 => ?_, hb2.trans hB3⟩
            · rw [CE (by omega)] at h1
              exact (HT3.out a v x h0 h1 h2).stays hst
            · by_cases e : a = t
              · subst e
                rw [BX (by omega), hTl, jQ] at h1
                simp at h1
                subst h1
                rw [hat]
                exact hs2.stays hst
              · rw [CE (by omega)] at h1
                exact (HT4.out a v (by omega) h1).stays hst
          · simp [intOf]; omega
        · have Akd : t = m := by omega
          subst Akd
          have h8 : ¬ 8 * (j / 8 + t) < j + k := fun h => hlt2 ((TN.out t).2 h)
          have t1 : decide (((64 * (j / 8 + t) : Nat) : Int) < 8 * (j : Int) + 8 * (k : Int)) = false := decide_eq_false (by omega)
          have HT1 := Aa hT1
          have HT2 := Aa hT2
          clear hT1 hT2
          go_wp2_with (at_builtin; go_loud (refine GH rfl (.tmp 62) (.tmp 65) 240 rfl Tryz.ak wr w.heap.size u8 (k + t) T [.func (.func 100) #[.pointer (some ⟨d, 0, none⟩)] #[]] rfl wO rfl rfl rfl rfl 1 1 rfl rfl (by intro u hu; simp at hu; subst hu; rfl) (by simp; omega) (by decide) fZ.size ?_); intro v3 w3 hO3 hB3 hK3)
          have hst := OX.kept wO hK3
          obtain ⟨A4, c4, rfl, hc4, hr4⟩ := BU hO3
          obtain ⟨g4, rfl, hg4, _⟩ := Me hO3 (by omega)
          have hb3 := fZ.trans hB3
          subst hlen
          refine (lJ d L g hb ws j t xs w w3 hL0 hL H.out hj hb3 hm0 hn0 HM1.out (fun a ha => (TN.out a).1 ha) (T ++ [.func (.func 100) #[.pointer (some ⟨d, 0, none⟩)] #[]])
            (fun a v x h0 h1 h2 => ?_) (fun a v h0 h1 => ?_) ?_ (by simp; omega) (some ⟨g4, 0, none⟩) c4 hr4 (fun a ha => by injection ha with ha; subst ha; exact hg4)).mono ?_
          · rw [CE (by omega)] at h1
            exact (HT1.out a v x h0 h1 h2).stays hst
          · rw [CE (by omega)] at h1
            exact (HT2.out a v h0 h1).stays hst
          · rw [BX (by omega), hTl, jQ]; rfl
          rintro e w' ⟨rfl, hp⟩
          have hd := Dv.back (w := w) hp hb3
          clear hp hb3 H
          go_wp2_with fail
          go_ret
          exact ⟨rfl, hd⟩
def PO(w:World)(b:Nat)(xs:List UInt64):Prop:=∃cur:Array Value,w.heap[b]? =some (.cells cur 23 (0,0))/\∀k(h:k<xs.length),cur[k]? =some (wv xs[k])
theorem PO.lt{w:World}{b:Nat}{xs:List UInt64}(h:PO w b xs):b<w.heap.size:=by
 obtain⟨cur,hc,_⟩:=h;exact(Array.getElem?_eq_some_iff.1 hc).1
theorem PO.keep{w w':World}{b:Nat}{xs:List UInt64}(h:PO w b xs)(hk:w'.heap[b]? =w.heap[b]?):PO w' b xs:=by
 obtain⟨cur,hc,h2⟩:=h;exact⟨cur,hk.trans hc,h2⟩
theorem PO.cell{w:World}{b:Nat}{xs:List UInt64}(h:PO w b xs)(k:Nat)(hk:k<xs.length):w.cell? ⟨b,k,none⟩=some (.int .u64 (xs[k].toNat:Int)):=by
 obtain⟨cur,hc,h2⟩:=h;rw [cell_of_row w b k cur _ (0,0) hc,h2 k hk];rfl
theorem PO.frozen{w:World}{b:Nat}{xs:List UInt64}(h:PO w b xs)(k:Nat):w.frozen? ⟨b,k,none⟩=false:=by
 obtain⟨cur,hc,h2⟩:=h;simp [World.frozen?,hc]
theorem PO.set{w:World}{b:Nat}{xs:List UInt64}(h:PO w b xs)(k:Nat)(x:UInt64):PO (w.setCell ⟨b,k,none⟩ (wv x)) b (xs.set k x):=by
 obtain⟨cur,hc,h2⟩:=h;refine⟨_,IW _ hc,fun t ht=> ?_⟩;rw [List.length_set]at ht;rw [Array.getElem?_setIfInBounds,Je];by_cases e:k=t
 ·subst e;have:k<cur.size:=(Array.getElem?_eq_some_iff.1 (h2 k ht)).1;rw [if_pos rfl,if_pos rfl,if_pos this]
 ·rw [if_neg e,if_neg e];exact h2 t ht
theorem PO.KY{w:World}{base b n c:Nat}{xs:List UInt64}(h:w.ownsRow base 23 1 (.slice (some ⟨b,0,none⟩) n c) n (xs.map wv)):PO w b xs:=by
 obtain⟨h1,h2⟩:=h;rcases h2 with⟨h2,_⟩| ⟨g',cap,cur,hv,hB,hg,hnc,hcm,hcs,ht⟩
 ·cases h2
 ·simp only [Value.slice.injEq,Option.some.injEq,Addr.mk.injEq,and_true,true_and]at hv;obtain⟨rfl,rfl⟩:=hv;refine⟨cur,hg,fun k hk=> ?_⟩;have hkn:k<n:=by simpa using(by simpa using h1:xs.length=n)▸hk
  have e:=congrArg (fun l=>l[k]?) ht;simp only [CG,BC,Af hk,Dh]at e;rw [if_pos (by omega)]at e;rw [<-Array.getElem?_toList];exact e
structure Aq(F F':Nat->Prop)(w w':World):Prop where
 touch:Touch F w w'
 own:∀b,F' b->F b\/w.heap.size<=b
theorem Aq.refl(F:Nat->Prop)(w:World):Aq F F w w:=⟨Touch.refl _ _,fun _ h=> .inl h⟩
theorem Aq.of_below{F:Nat->Prop}{w w':World}(h:Below w.heap.size w w'):Aq F F w w':=⟨Touch.of_below h,fun _ h=> .inl h⟩
theorem Aq.trans{F F' F'':Nat->Prop}{w w' w'':World}(h:Aq F F' w w')(k:Aq F' F'' w' w''):Aq F F'' w w'':=
 ⟨h.touch.trans k.touch (fun b hb=>h.own b hb),fun b hb=>(k.own b hb).elim (fun h1=>h.own b h1) (fun h1=> .inr (AL h.touch.size h1))⟩
theorem Aq.below{F F':Nat->Prop}{w w' w'':World}(h:Aq F F' w w')(k:Below w'.heap.size w' w''):Aq F F' w w'':=h.trans (Aq.of_below k)
theorem Aq.set{F F':Nat->Prop}{w w':World}(h:Aq F F' w w'){p:Addr}(hp:F p.block\/w.heap.size<=p.block)(u:Value):Aq F F' w (w'.setCell p u):=⟨h.touch.setCell hp u,h.own⟩
structure Tabs(w:World):Prop where
 fours:∀j,j<16->w.cell? ⟨0,j,none⟩=some (.int .u32 (JB.getD j 0:Nat))
 au:∀j,j<64->w.cell? ⟨1,j,none⟩=some (.int .u8 (Lib.deBruijn64tab.getD j 0:Nat))
theorem Tabs.keep{w w':World}(h:Tabs w)(h1:w'.heap[0]? =w.heap[0]?)(h2:w'.heap[1]? =w.heap[1]?):Tabs w':=
 ⟨fun j hj=>(World.cell?_of_block (w:=w) h1).trans (h.fours j hj),fun j hj=>(World.cell?_of_block (w:=w) h2).trans (h.au j hj)⟩
theorem Tabs.lt{w:World}(h:Tabs w):0<w.heap.size/\1<w.heap.size:=
 ⟨World.block_lt_of_cell? w _ (h.fours 0 (by decide)),World.block_lt_of_cell? w _ (h.au 0 (by decide))⟩
theorem Tabs.below{w w':World}(h:Tabs w)(k:Below w.heap.size w w'):Tabs w':=h.keep (k.block _ h.lt.1) (k.block _ h.lt.2)
structure FD(len:Nat->Nat)(w:World)(d p L:Nat)(s:St)(tb hb n cT cH:Nat)(own:Nat->Prop):Prop where
 dev:Dev w d L s.ws len (fun _=>0) own
 L0:0<L
 L1:L<=1024
 shape:shapeOf L=some s.sh
 box:BH w p 131 [.pointer (some ⟨d,0,none⟩),.int .i64 (s.sh.lines:Nat),.int .i64 (s.sh.BQ:Nat),.int .i64 (s.sh.table:Nat),.int .i64 (s.sh.data:Nat),.slice (some ⟨tb,0,none⟩) n cT,.slice (some ⟨hb,0,none⟩) n cH]
 tk:PO w tb s.tk
 hd:PO w hb s.hd
 Pn:s.tk.length=n
 jW:s.hd.length=n
 YS:n=s.sh.BQ
 cT:n<=cT
 cH:n<=cH
 dp:¬own p
 dt:¬own tb
 dh:¬own hb
 pt:p≠tb
 ph:p≠hb
 th:tb≠hb
 tabs:Tabs w
 g1:¬(own 0\/0=p\/0=tb\/0=hb)
 g2:¬(own 1\/1=p\/1=tb\/1=hb)
abbrev ax:=FD (fun _=>0)
def GU(len:Nat->Nat)(w:World)(d p L:Nat)(s:St)(F:Nat->Prop):Prop:=
 ∃tb hb n cT cH own,FD len w d p L s tb hb n cT cH own/\∀b,F b<->(own b\/b=p\/b=tb\/b=hb)
abbrev Sys:=GU (fun _=>0)
section
variable{w w':World}{d p L:Nat}{s:St}{F:Nat->Prop}
theorem GU.lt{len:Nat->Nat}(h:GU len w d p L s F):∀b,F b->b<w.heap.size:=by
 obtain⟨tb,hb,n,cT,cH,own,h,hF⟩:=h;intro b hb';rcases(hF b).1 hb' with h1| rfl| rfl| rfl
 ·exact h.dev.lt b h1
 ·exact h.box.lt
 ·exact h.tk.lt
 ·exact h.hd.lt
theorem GU.tabs{len:Nat->Nat}(h:GU len w d p L s F):Tabs w:=by
 obtain⟨tb,hb,n,cT,cH,own,h,hF⟩:=h;exact h.tabs
theorem GU.keep{len:Nat->Nat}(h:GU len w d p L s F){G:Nat->Prop}(t:Touch G w w')(hG:∀b,F b->¬G b)(g1:¬G 0)(g2:¬G 1):GU len w' d p L s F:=by
 have hlt:=h.lt;obtain⟨tb,hb,n,cT,cH,own,h,hF⟩:=h;have keep:∀b,F b->w'.heap[b]? =w.heap[b]? :=fun b hb'=>t.block b (hlt b hb') (hG b hb')
 refine⟨tb,hb,n,cT,cH,own,⟨h.dev.touch t (fun b hb'=>hG b ((hF b).2 (.inl hb'))),h.L0,h.L1,h.shape,(keep p ((hF p).2 (.inr (.inl rfl)))).trans h.box,h.tk.keep (keep tb ((hF tb).2 (.inr (.inr (.inl rfl))))),h.hd.keep (keep hb ((hF hb).2 (.inr (.inr (.inr rfl))))),h.Pn,h.jW,h.YS,h.cT,h.cH,h.dp,h.dt,h.dh,h.pt,h.ph,h.th,
  h.tabs.keep (t.block _ h.tabs.lt.1 g1) (t.block _ h.tabs.lt.2 g2),h.g1,h.g2⟩,hF⟩
theorem GU.below{len:Nat->Nat}(h:GU len w d p L s F)(k:Below w.heap.size w w'):GU len w' d p L s F:=
 h.keep (Touch.of_below (F:=fun _=>False) k) (fun _ _=>id) id id
end
theorem WM(L:Nat):∀f s,LV s<=L\/s=0->LV (I5 L f s)<=L\/I5 L f s=0
 | 0,s,h=>h
 | f+1,s,h=>by
   unfold I5;split
   ·rename_i h1;exact WM L f (s+1) (.inl h1)
   ·exact h
structure Yq(L:Nat)(sh:Sh):Prop where
 BQ:0<sh.BQ
 lines:sh.lines=L
 table:sh.table=128
 data:sh.data=64*I9 sh.BQ
 fits:sh.data+1024*sh.BQ<=64*L
 NR:128+8*sh.BQ<=sh.data
theorem Jn{L:Nat}{sh:Sh}(h:shapeOf L=some sh):Yq L sh:=by
 unfold shapeOf at h;split at h
 ·cases h
 ·dsimp only at h
  split at h
  ·cases h
  ·rename_i h1 h2;injection h with h
   have:=(WM L L 0 (.inr rfl)).resolve_right h2;subst h;unfold LV I9 at this;refine⟨Nat.pos_of_ne_zero h2,rfl,rfl,by simp [Nat.mul_comm],?_,?_⟩
   ·show(2+(Ou L+7)/8)*64+1024*Ou L<=64*L;unfold Ou;omega
   ·show 128+8*Ou L<=(2+(Ou L+7)/8)*64;omega
section
variable{w w':World}{d p L:Nat}{s:St}{F:Nat->Prop}
theorem FD.wrote{tb hb n cT cH g:Nat}{own:Nat->Prop}{hb0:Nat->Option Nat}{ws':Nat->UInt64}(h:ax w d p L s tb hb n cT cH own)(hF:∀b,F b<->(own b\/b=p\/b=tb\/b=hb))(ho:∀b,own b<->EO d L g hb0 b)
 (hd:Dv w d L g hb0 ws' (fun _=>0) (fun _=>0) w'):∃F',Sys w' d p L {s with ws:=ws'} F'/\Aq F F' w w':=by
 obtain⟨hb1,ho1,hr1,ht⟩:=hd;have out:∀b,b<w.heap.size->¬own b->¬EO d L g hb1 b:=fun b hlt hn h1=>(ho1 b h1).elim (fun h2=>hn ((ho b).2 h2)) (fun h2=>by omega)
 have keep:∀b,b<w.heap.size->¬own b->w'.heap[b]? =w.heap[b]? :=fun b hlt hn=>ht.block b hlt (fun h2=>hn ((ho b).2 h2))
 have hg1:¬own 0:=fun h1=>h.g1 (.inl h1)
 have hg2:¬own 1:=fun h1=>h.g2 (.inl h1)
 refine⟨fun b=>EO d L g hb1 b\/b=p\/b=tb\/b=hb,⟨tb,hb,n,cT,cH,EO d L g hb1,⟨⟨g,hb1,hr1,fun _=>Iff.rfl⟩,h.L0,h.L1,h.shape,(keep p h.box.lt h.dp).trans h.box,h.tk.keep (keep tb h.tk.lt h.dt),h.hd.keep (keep hb h.hd.lt h.dh),h.Pn,h.jW,h.YS,h.cT,h.cH,
  out p h.box.lt h.dp,out tb h.tk.lt h.dt,out hb h.hd.lt h.dh,h.pt,h.ph,h.th,h.tabs.keep (keep _ h.tabs.lt.1 hg1) (keep _ h.tabs.lt.2 hg2),
  fun h1=>h1.elim (out _ h.tabs.lt.1 hg1) (fun h2=>h.g1 (.inr h2)),fun h1=>h1.elim (out _ h.tabs.lt.2 hg2) (fun h2=>h.g2 (.inr h2))⟩,fun _=>Iff.rfl⟩,⟨ht.mono (fun b hb'=>(hF b).2 (.inl ((ho b).2 hb'))),fun b hb'=> ?_⟩⟩
 rcases hb' with h1| h1
 ·exact(ho1 b h1).imp (fun h2=>(hF b).2 (.inl ((ho b).2 h2))) id
 ·exact .inl ((hF b).2 (.inr h1))
theorem VB(h:Sys w d p L s F)(j:Nat)(x:UInt64)(hj:j<8*L):
 Calls Tryz.prog 50 #[.pointer (some ⟨d,0,none⟩),.int .i64 ((8*j:Nat):Int),.int .u64 (x.toNat:Int)] w fun e w'=>e= .returned (.int .i64 0)/\
  ∃F',Sys w' d p L {s with ws:=FH s.ws j x} F'/\Aq F F' w w':=by
 obtain⟨tb,hb,n,cT,cH,own,h,hF⟩:=h;obtain⟨g,hb0,hr,ho⟩:=h.dev;refine(Abr d L g hb0 s.ws j x w h.L0 h.L1 hr hj).mono ?_;rintro e w'⟨rfl,hd⟩;exact⟨rfl,h.wrote hF ho hd⟩
theorem WN(h:Sys w d p L s F)(j n c:Nat)(A:Option Addr)(xs:List UInt64)(hj:j+n<=8*L)(hn0:0<n)(hx:Ws w A n xs):
 Calls Tryz.prog 132 #[.pointer (some ⟨d,0,none⟩),.int .i64 ((8*j:Nat):Int),.slice A n c] w fun e w'=>e= .returned (.int .i64 0)/\
  ∃F',Sys w' d p L {s with ws:=CP s.ws j xs} F'/\Aq F F' w w':=by
 obtain⟨tb,hb,n',cT,cH,own,h,hF⟩:=h;obtain⟨g,hb0,hr,ho⟩:=h.dev;refine(WL d L g hb0 s.ws j n c A xs w h.L0 h.L1 hr hj hn0 hx).mono ?_;rintro e w'⟨rfl,hd⟩;exact⟨rfl,h.wrote hF ho hd⟩
theorem ay{len:Nat->Nat}(h:GU len w d p L s F)(j n:Nat)(hj:j+n<=8*L):
 Calls Tryz.prog 68 #[.pointer (some ⟨d,0,none⟩),.int .i64 ((8*j:Nat):Int),.int .i64 (n:Int)] w fun e w'=>∃v,e= .returned (.tuple #[v,.int .i64 0])/\
  w'.ownsRow w.heap.size 23 1 v n ((wordsAt s.ws j n).map wv)/\Below w.heap.size w w':=by
 obtain⟨tb,hb,n',cT,cH,own,h,hF⟩:=h;obtain⟨g,hb0,hr,ho⟩:=h.dev;exact aj d L s.ws _ _ g hb0 j n w h.L0 h.L1 hr hj
end
theorem Dv.dev{w w':World}{d L g:Nat}{hb0:Nat->Option Nat}{own:Nat->Prop}{ws':Nat->UInt64}(ho:∀b,own b<->EO d L g hb0 b)(hd:Dv w d L g hb0 ws' (fun _=>0) (fun _=>0) w'):
 ∃own',Dev w' d L ws' (fun _=>0) (fun _=>0) own'/\Touch own w w'/\∀b,own' b->own b\/w.heap.size<=b:=by
 obtain⟨hb1,ho1,hr1,ht⟩:=hd;exact⟨EO d L g hb1,⟨g,hb1,hr1,fun _=>Iff.rfl⟩,ht.mono (fun b hb=>(ho b).2 hb),fun b hb=>(ho1 b hb).imp (ho b).2 id⟩
theorem WO{w:World}{d L:Nat}{ws:Nat->UInt64}{own:Nat->Prop}(hL0:0<L)(hL:L<=1024)(h:Dev w d L ws (fun _=>0) (fun _=>0) own)(j n c:Nat)(A:Option Addr)(xs:List UInt64)(hj:j+n<=8*L)(hn0:0<n)(hx:Ws w A n xs):
 Calls Tryz.prog 132 #[.pointer (some ⟨d,0,none⟩),.int .i64 ((8*j:Nat):Int),.slice A n c] w fun e w'=>e= .returned (.int .i64 0)/\
  ∃own',Dev w' d L (CP ws j xs) (fun _=>0) (fun _=>0) own'/\Touch own w w'/\∀b,own' b->own b\/w.heap.size<=b:=by
 obtain⟨g,hb0,hr,ho⟩:=h;refine(WL d L g hb0 ws j n c A xs w hL0 hL hr hj hn0 hx).mono ?_;rintro e w'⟨rfl,hd⟩;exact⟨rfl,hd.dev ho⟩
theorem tq{w:World}{d L:Nat}{ws:Nat->UInt64}{own:Nat->Prop}(hL0:0<L)(hL:L<=1024)(h:Dev w d L ws (fun _=>0) (fun _=>0) own):
 Calls Tryz.prog 131 #[.pointer (some ⟨d,0,none⟩),.int .i64 0,.int .i64 (L:Int)] w fun e w'=>e= .returned (.int .i64 0)/\
  ∃own',Dev w' d L (CP ws 0 (Bf (8*L) 0)) (fun _=>0) (fun _=>0) own'/\Touch own w w'/\∀b,own' b->own b\/w.heap.size<=b:=by
 obtain⟨i0,hi,hz0,hz1,hz2⟩:=info_parts Tryz.H8.hi;have t1:decide ((L:Int)<0)=false:=by simp
 have t2:decide ((1024:Int)<(L:Int))=false:=decide_eq_false (by omega);have H:=Aa h;clear h;go_enter Tryz.func131,Tryz.ntmps131
 go_wp2_with(at_make;rw [show(L:Int)*8=((8*L:Nat):Int)by omega];refine wpList_make_full _ rfl _ _ 129 rfl w.heap.size 23 i0 (.int .u64 0) 1 Tryz.underlying129 hi hz0 hz1 .i64 .i64 _ _ (8*L) rfl rfl rfl rfl (by rw [hz2];omega) (by unfold maxLen;omega) (Ad _) ?_;intro w0 hown0 hgrow0)
 have hb0:Below w.heap.size w w0:=(Below.refl _ _).grown hgrow0 (Ad _) (by simp);obtain⟨g,hbb,hr,ho⟩:=H.out;have h0:Dev w0 d L ws (fun _=>0) (fun _=>0) own:=⟨g,hbb,hr.below hb0,ho⟩;rw [J9]at hown0;have HP:=WO hL0 hL h0 0 (8*L) (8*L) (some ⟨w.heap.size,0,none⟩) (Bf (8*L) 0) (by omega) (by omega) (BK hown0).2;rw [show((8*0:Nat):Int)=0 from rfl]at HP;refine HP.mono ?_;rintro e w'⟨rfl,own',hd,ht,ho'⟩
 go_wp2_with fail
 go_ret;refine⟨rfl,own',hd,(Touch.of_below hb0).trans ht (fun b hb=> .inl hb),fun b hb=>(ho' b hb).imp id (fun h=>AL hb0.size h)⟩
end Go.Proofs.YtjcppneoncpdbaaGreatDoor
