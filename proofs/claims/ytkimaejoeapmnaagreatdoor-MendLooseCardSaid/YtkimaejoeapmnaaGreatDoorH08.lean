import Derived.Lib.TrailingZeros
import Derived.Test.YtkimaejoeapmnaaGreatDoorH07
set_option linter.defProp false
set_option maxHeartbeats 32000000
set_option maxRecDepth 100000
open Go.World renaming block_lt_of_cell?->D6,frozen?->GL,cell?_of_block->BA,cell?_alloc_past->Dc,cell?_alloc_at->Jn
open Go.Lib renaming hid->Aa
open Nat renaming zero_le->BU,le_refl->Ad,le_trans->Bc,min_eq_left->Ny,add_sub_cancel_left->QK,sub_self->Xq,lt_irrefl->Am2,lt_of_lt_of_le->BQ
open List renaming replicate->BC,ext_getElem->Eu,getElem?_replicate->IB,getElem?_append_left->DI,range->D9,getElem?_map->BZ,length_take->Dw,getD_eq_getElem?_getD->Bi,getElem?_take->CW,getElem?_eq_getElem->Af,mem_cons_self->Bh,length_cons->BB,length_nil->Du,getElem_set->KG,getElem?_append_right->DZ
open Go.Value renaming int->Au,slice->Ac,func->Aqb
open Option renaming map_some->DT,getD_some->Pj
open Array renaming getElem?_eq_some_iff->AB
namespace Go.Proofs.YtkimaejoeapmnaaGreatDoor
open Go.RowKit
open Go.Proofs.Tryz
def dF(g i:Nat)(w:World)(z3:w.cell? (Δ g (66*i+65))=some (.int .i64 0)):
 Calls prog 178 #[.pointer (some (Δ g (66*i)))] w λe w'=>e= .returned (.tuple #[])/\w=w':=by
 go_enter func178,ntmps178;go_wp2;go_end0;exact⟨rfl,rfl⟩
def Afr(A:Option Addr)(n c:Nat)(hn:n<=1000000):∃D,∀W,(Instr.slice 80 (.slice A n c) (some (.int .i64 (n:Int))) none none).run prog W= .ok (.slice D 0 (c-n)) W:=by
 obtain⟨i,hi,hz0,hz1,hz2⟩:∃i,prog.info? 204=some i/\i.zero=some (.agg #[.int .i64 0,.int .u64 0])/\i.size=2/\i.bytes=16:=by
  have hI:(prog.info? 204).map (λi=>(i.zero,i.size,i.bytes))=some (some (.agg #[.int .i64 0,.int .u64 0]),2,16):=by kernel_rfl
  exact info_parts hI
 refine⟨if c=n then A else A.map (·.add (n*2)),λW=> ?_⟩;have e2:=run_sliceBound (P:=prog) (w:=W) .i64 (n:Int) n .sliceB O O;have e3:(sizeOf 204).run prog W= .ok 2 W:=by simp [sizeOf,typeInfo,hi,hz1]
 simp [Instr.slice,run_underlying underlying80,Instr.sliceBounds,e2]
def wE(g i n c:Nat)(A:Option Addr)(w:World)(hn:n<=1000000)(z1:w.cell? (Δ g (66*i+64))=some (.slice A n c))(z3:w.cell? (Δ g (66*i+65))=some (.int .i64 ((n:Int)+1)))
 (f1:w.frozen? (Δ g (66*i+64))=false)(f2:w.frozen? (Δ g (66*i+65))=false):
 Calls prog 178 #[.pointer (some (Δ g (66*i)))] w λe w'=>e= .returned (.tuple #[])/\∃B w1,η w w1/\w'=(w1.setCell (Δ g (66*i+64)) (.slice B 0 0)).setCell (Δ g (66*i+65)) (.int .i64 0):=by
 have dE:g<w.heap.size:=D6 w _ z1;obtain⟨D,hD⟩:=Afr A n c hn;have b1:IntKind.i64.wrap ((n:Int)+1-1)=(n:Int):=by rw [Int.add_sub_cancel];exact IntWalk.i64_in _ O
 have b2:IntKind.i64.wrap (n:Int)=(n:Int):=IntWalk.i64_in _ O;have t1:decide ((0:Int)<(n:Int)+1)=true:=decide_eq_true O;go_enter func178,ntmps178
 go_wp2_with fail
 go_region_with(go_at_call 195;go_loud(refine(wC _ _ _).mono ?_;rintro e w1⟨B,rfl,hb1⟩;have k1:=(hb1.cell (p:=Δ g (66*i+64)) dE).trans z1;have k2:=(hb1.frozen (p:=Δ g (66*i+64)) dE).trans f1;have k3:=(hb1.cell (p:=Δ g (66*i+65)) dE).trans z3;have k4:=(hb1.frozen (p:=Δ g (66*i+65)) dE).trans f2))
 all_goals(go_wp2_with fail)
 all_goals(go_end0)
 all_goals(exact⟨rfl,B,w1,⟨hb1.os,hb1.tape,hb1.output,hb1.size,hb1.block⟩,rfl⟩)
def TG(k:Nat)(len:Mode)(mark:Nat->Nat):Mode:=⟨λi=>if i<k/\mark i≠0 then []else len.Nk i,len.lf⟩
def ML(k:Nat)(mark:Nat->Nat)(i:Nat):Nat:=if i<k then 0 else mark i
def Ld(k:Nat)(mark:Nat->Nat)(hb:Nat->Option Nat)(i:Nat):Option Nat:=if i<k/\mark i≠0 then none else hb i
def Ab7(len:Mode)(mark:Nat->Nat):TG 0 len mark=len:=by
 cases len;rfl
def wF(mark:Nat->Nat):ML 0 mark=mark:=by funext i;simp [ML]
def Afs(mark:Nat->Nat)(hb:Nat->Option Nat):Ld 0 mark hb=hb:=by funext i;simp [Ld]
def Ajq(k:Nat)(len:Mode)(mark:Nat->Nat)(h:mark k=0):TG (k+1) len mark=TG k len mark:=by
 unfold TG;congr 1;funext i;by_cases e:i=k
 ·subst e;simp [h]
 ·simp only [show(i<k+1)=(i<k)by apply propext;omega]
def Aft(k:Nat)(mark:Nat->Nat)(h:mark k=0):ML (k+1) mark=ML k mark:=by
 funext i;unfold ML;by_cases e:i=k
 ·subst e;simp [h]
 ·simp only [show(i<k+1)=(i<k)by apply propext;omega]
def Ane(k:Nat)(mark:Nat->Nat)(hb:Nat->Option Nat)(h:mark k=0):Ld (k+1) mark hb=Ld k mark hb:=by
 funext i;unfold Ld;by_cases e:i=k
 ·subst e;simp [h]
 ·simp only [show(i<k+1)=(i<k)by apply propext;omega]
def Afu(k:Nat)(len:Mode)(mark:Nat->Nat)(h:mark k≠0):TG (k+1) len mark=(TG k len mark).wipe k:=by
 unfold TG Mode.wipe;congr 1;funext i;by_cases e:i=k
 ·subst e;simp [h]
 ·simp only [show(i<k+1)=(i<k)by apply propext;omega,if_neg e]
def Ab8(k:Nat)(mark:Nat->Nat):ML (k+1) mark=λi=>if i=k then 0 else ML k mark i:=by
 funext i;unfold ML;by_cases e:i=k
 ·subst e;simp
 ·simp only [show(i<k+1)=(i<k)by apply propext;omega,if_neg e]
def Ajr(k:Nat)(mark:Nat->Nat)(hb:Nat->Option Nat)(h:mark k≠0):Ld (k+1) mark hb=λi=>if i=k then none else Ld k mark hb i:=by
 funext i;unfold Ld;by_cases e:i=k
 ·subst e;simp [h]
 ·simp only [show(i<k+1)=(i<k)by apply propext;omega,if_neg e]
def Afv(d L:Nat)(ws:Nat->UInt64)(len:Mode)(mark:Nat->Nat)(g:Nat)(hb:Nat->Option Nat)(k:Nat)(w:World)(hk:k<L)(h:BK w d L ws (TG k len mark) (ML k mark) g (Ld k mark hb))
 (hm:mark k=0\/mark k=len k+1)(hlen:len k<=1000000):
 Calls prog 178 #[.pointer (some (Δ g (66*k)))] w λe w'=>e= .returned (.tuple #[])/\
  BK w' d L ws (TG (k+1) len mark) (ML (k+1) mark) g (Ld (k+1) mark hb)/\Touch (λb=>b=g) w w':=by
 obtain⟨cur,hg,hs,h1,h2⟩:=h.blk;obtain⟨A,c,e1,e2,hc⟩:=h2 k hk;have l1:(TG k len mark).len k=len k:=by simp [TG,Mode.len]
 have m1:ML k mark k=mark k:=by simp [ML]
 rw [l1]at e1;rw [m1]at e2;have z1:w.cell? (Δ g (66*k+64))=some (.slice A (len k) c):=by rw [cell_of_row w g _ cur _ (0,0) hg];exact e1
 have z3:w.cell? (Δ g (66*k+65))=some (.int .i64 (mark k:Int)):=by rw [cell_of_row w g _ cur _ (0,0) hg];exact e2
 have f1:w.frozen? (Δ g (66*k+64))=false:=by simp [GL,hg]
 have f2:w.frozen? (Δ g (66*k+65))=false:=by simp [GL,hg]
 by_cases h0:mark k=0
 ·rw [h0]at z3;refine(dF g k w z3).mono ?_;rintro e w'⟨rfl,rfl⟩;refine⟨rfl,?_,Touch.refl _ _⟩;rw [Ajq _ _ _ h0,Aft _ _ h0,Ane _ _ _ h0];exact h
 ·have hm':mark k=len k+1:=hm.resolve_left h0;rw [hm',Int.natCast_add]at z3;refine(wE g k (len k) c A w hlen z1 z3 f1 f2).mono ?_;rintro e w'⟨rfl,B,w1,hb1,rfl⟩;refine⟨rfl,?_,Touch.setCell (F:=λb=>b=g) (Touch.setCell (F:=λb=>b=g) (Touch.of_below hb1) (p:=Δ g (66*k+64)) (.inl rfl) _) (p:=Δ g (66*k+65)) (.inl rfl) _⟩;rw [Afu _ _ _ h0,Ab8,Ajr _ _ _ h0];exact h.clear hk hb1 B
def Ab9(d L:Nat)(ws:Nat->UInt64)(len:Mode)(mark:Nat->Nat)(g:Nat)(hb:Nat->Option Nat)(w:World)(hL:L<=1024)(hL0:0<L)(hu:len.lf≠0)(h:BK w d L ws len mark g hb)
 (hm:∀i,i<L->mark i=0\/mark i=len i+1)(hlen:∀i,i<L->len i<=1000000):
 Calls prog 147 #[Az d] w λe w'=>e= .returned (.int .i64 0)/\
  BK w' d L ws (TG L len mark).tick (ML L mark) g (Ld L mark hb)/\Touch (Dh d L g hb) w w':=by
 obtain⟨st,hbx⟩:=h.box;have Afq:=h.lfr;rw [decide_eq_false hu]at hbx;obtain⟨y0,y1,y2,y3,f0,f1,f2,f3⟩:=CG hbx;have ha:=wu d L g 0 1 (.int .i64 len.lf) (.int .i64 st) w hL hbx O U U U;have HA:=Aa ha;have H:=Aa h;have HM:=Aa hm;have HL:=Aa hlen;clear ha h hbx hm hlen;go_enter func147,ntmps147
 go_wp2_with fail
 refine HA.out.mono ?_;rintro e w'⟨rfl,rfl⟩;clear HA
 go_wp2_with fail
 clear y0 y1 y2 y3 f0 f1 f2 f3
 go_loopw [15](λi wr=>∃k:Nat,k<=L/\i= .int .i64 k/\BK wr d L ws (TG k len mark) (ML k mark) g (Ld k mark hb)/\Touch (λb=>b=g) w wr)(λi _=>L- (intOf i).toNat)
 case atStart=>exact⟨0,BU _,rfl,by rw [Ab7,wF,Afs];exact H.out,Touch.refl _ _⟩
 case round=>
  obtain⟨k,hk,rfl,hr,ht⟩:=hrel;obtain⟨st2,hbx2⟩:=hr.box;rw [show decide ((TG k len mark).lf=0)=false from decide_eq_false hu]at hbx2;obtain⟨y0,y1,y2,y3,f0,f1,f2,f3⟩:=CG hbx2;by_cases hlt:k<L
  ·have HF:=Aa (Afv d L ws len mark g hb k wr hlt hr (HM.out k hlt) (HL.out k hlt));have HT:=Aa ht;clear hr ht hbx2
   go_wp2_with fail
   rw [show k*66=66*k by omega];refine HF.out.mono ?_;rintro e w2⟨rfl,hr2,ht2⟩;have ht3:=HT.out.trans ht2 (λb hb'=> .inl hb');clear HF HT y0 y1 y2 y3 f0 f1 f2 f3 ht2
   go_wp2_with fail
   go_roundw
   case rel=>exact⟨k+1,O,by go_num,hr2,ht3⟩
   case measure=>simp [intOf];omega
  ·have hkn:k=L:=O
   subst hkn;have HD:=Aa (Vq d g k len.lf st2 wr hu Afq hbx2);have HR:=Aa hr;have HT:=Aa ht;clear hr ht hbx2
   go_wp2_with fail
   refine HD.out.mono ?_;rintro e w2⟨rfl,ht6,st',O5⟩;clear HD y0 y1 y2 y3 f0 f1 f2 f3
   go_wp2_with fail
   go_ret;exact⟨rfl,HR.out.step ht6 O5,(HT.out.mono (λb e=> .inr (.inl e))).trans ht6 (λb h=> .inl (.inl h))⟩
def MM:Array Value:=(BC 64 (Au .u8 0)++[Ac none 0 0,Au .i64 0]).toArray
def Tryz.wG:(prog.info? 82).bind (λi=>i.zero.map (λz=>(z.cells,i.size,i.bytes)))=some (MM,66,96):=by kernel_rfl
def wH(i:Nat):leBytes (EN (λ_=>0) i)=BC 64 0:=by
 have:EN (λ_=>0) i=BC 8 0:=by
  apply Eu
  ·simp [EN]
  ·intro t h1 h2;rw [Jr,List.getElem_replicate]
 rw [this];decide
def Wu(L i k:Nat)(hi:i<L)(hk:k<66):(madeCells MM (L*66))[66*i+k]? =MM[k]? :=by
 have hs:MM.size=66:=rfl;have:66*i+k<L*66:=O
 unfold madeCells;rw [Array.getElem?_map,hs];simp only [Array.getElem?_range,this,if_true,DT];rw [show(66*i+k)%66=k by omega,getElem!_pos MM k (by rw [hs];exact hk),Array.getElem?_eq_getElem (by rw [hs];exact hk)]
def BK.made{w:World}{d g L:Nat}{st:Int}(hd:CS w d 78 [.slice (some (Φ g)) L L,.bool false,.int .i64 (-1),.int .i64 st])(hne:g≠d)(hg:w.heap[g]? =some (.cells (madeCells MM (L*66)) 82 (0,0))):
 BK w d L (λ_=>0) M0 (λ_=>0) g (λ_=>none):=by
 refine⟨⟨st,hd⟩,by decide,hne,⟨_,hg,by rw [size_madeCells];omega,λi hi k hk=> ?_,λi hi=>⟨none,0,?_,?_,.inl ⟨rfl,rfl,rfl⟩⟩⟩,λi hi h hh=>(by cases hh),λi j hi hj hij h hh=>(by cases hh),λi hi=>BU _⟩
 ·rw [Wu L i k hi O,wH,IB,if_pos hk];show(BC 64 (Au .u8 0)++[Ac none 0 0,Au .i64 0]).toArray[k]? =_;rw [List.getElem?_toArray,DI (by simpa using hk),IB,if_pos hk];rfl
 ·rw [Wu L i 64 hi U];rfl
 ·rw [Wu L i 65 hi U];rfl
def oU(L:Nat)(w:World)(hL0:1<=L)(hL:L<=1024):
 Calls prog 26 #[.int .i64 (L:Int)] w λe w'=>∃d g,e= .returned (Az d)/\
  BK w' d L (λ_=>0) M0 (λ_=>0) g (λ_=>none)/\w.heap.size<=d/\w.heap.size<=g/\η w w'/\w'.cell? (Δ d 3)=some (.int .i64 0):=by
 obtain⟨i0,z,hi,hz0,hz1,hz2,hz3⟩:∃i z,prog.info? 82=some i/\i.zero=some z/\i.size=66/\i.bytes=96/\z.cells=MM:=by
  have h:=Tryz.wG;cases hh:prog.info? 82 with
  | none=>rw [hh]at h;cases h
  | some i=>
    rw [hh]at h;cases hz:i.zero with
    | none=>simp [hz]at h
    | some z=>simp [hz]at h;exact⟨i,z,rfl,hz,h.2.1,h.2.2,h.1⟩
 go_enter func26,ntmps26
 go_wp2_with(at_make;refine wpList_make_full _ rfl _ _ 76 rfl w.heap.size 82 i0 z 66 underlying76 hi hz0 hz1 .i64 .i64 _ _ L rfl rfl rfl rfl (by rw [hz2];omega) (by unfold maxLen;omega) (Ad _) ?_;intro w0 hown0 hgrow0)
 have hb0:η w w0:=(Below.refl _ _).grown hgrow0 (Ad _) Θ;rw [hz3]at hown0;have hg:w0.heap[w.heap.size]? =some (.cells (madeCells MM (L*66)) 82 (0,0)):=by
  rcases hown0.2 with⟨h,_⟩| ⟨g,cap,cur,h,_,hgg,_,_,hcs,ht⟩
  ·cases h
  ·simp only [Value.slice.injEq,Option.some.injEq,Addr.mk.injEq,and_true,true_and]at h;obtain⟨rfl,rfl⟩:=h;rw [List.take_of_length_le (by rw [Array.length_toList];omega)]at ht;rw [hgg,Array.toList_inj.1 ht]
 have hsz:w.heap.size<w0.heap.size:=(AB.1 hg).1;clear hgrow0 hown0;go_ret;refine⟨w0.heap.size,w.heap.size,rfl,BK.made (heap_alloc_new w0 _) O ((χ w0 _ hsz).trans hg),O,Ad _,hb0.alloc O _,CS.cell (heap_alloc_new w0 _) 3⟩
def zV(L:Nat)(w:World)(hL0:1<=L)(hL:L<=1024):
 Calls prog 26 #[.int .i64 (L:Int)] w λe w'=>∃d g,e= .returned (Az d)/\
  BK w' d L (λ_=>0) M0 (λ_=>0) g (λ_=>none)/\w.heap.size<=d/\w.heap.size<=g/\η w w':=by
 refine(oU L w hL0 hL).mono ?_;rintro e w'⟨d,g,h1,h2,h3,h4,h5,_⟩;exact⟨d,g,h1,h2,h3,h4,h5⟩
def oV(d:Nat)(off x:Int)(w:World):
 Calls prog 145 #[Az d,.int .i64 off,.int .u64 x] w λe w'=>e= .returned (.func (.func 174) #[] #[Az w.heap.size,Az (w.heap.size+1),Az (w.heap.size+1+1)])/\
  w'=((w.alloc (.cells #[Az d] 24)).alloc (.cells #[.int .i64 off] 3)).alloc (.cells #[.int .u64 x] 28):=by
 go_enter func145,ntmps145;go_wp2;go_ret;exact⟨rfl,rfl⟩
def oW(d:Nat)(off:Int)(w:World):
 Calls prog 146 #[Az d,.int .i64 off] w λe w'=>e= .returned (.func (.func 176) #[] #[Az w.heap.size,Az (w.heap.size+1)])/\
  w'=(w.alloc (.cells #[Az d] 24)).alloc (.cells #[.int .i64 off] 3):=by
 go_enter func146,ntmps146;go_wp2;go_ret;exact⟨rfl,rfl⟩
def fM(d L g off n:Nat)(v1 v2 v3:Value)(w:World)(hL0:1<=L)(hL:L<=1024)(h:CS w d 78 [.slice (some (Φ g)) L L,v1,v2,v3])(h8:off%8=0)(hn:off+8*n<=L*64):
 Calls prog 74 #[Az d,.int .i64 (off:Int),.int .i64 (n:Int)] w λe w'=>e= .returned (.int .i64 0)/\w=w':=by
 have hs:=NW d L g v1 v2 v3 w hL h;have HS:=Aa hs;obtain⟨N,hN⟩:∃N,N=L*64:=⟨_,rfl⟩;rw [<-hN]at hs HS hn;have t1:((N:Int)==0)=false:=by rw [beq_eq_false_iff_ne];omega
 have t2:decide ((off:Int)<0)=false:=decide_eq_false O;have t3:decide ((N:Int)<(off:Int))=false:=decide_eq_false O;have t4:((off:Int)%8 !=0)=false:=by
  have:(off:Int)%8=0:=O
  rw [this];rfl
 have t5:decide ((n:Int)<0)=false:=decide_eq_false O;have t6:decide (((N:Int) - (off:Int))/8<(n:Int))=false:=decide_eq_false O;have hN2:N<=65536:=O
 have hle:off<=N:=O
 clear hs h;go_enter func74,ntmps74
 go_wp2_with fail
 refine HS.out.mono ?_;rintro e w'⟨rfl,rfl⟩;clear HS hN
 go_wp2_with fail
 go_ret;exact⟨rfl,rfl⟩
def Zy{Q:Int->World->Prop}(b1 b2 b3:Nat)(D:Value)(off x:Int)(w:World)(h1:w.cell? (Φ b1)=some D)(hD:∃A,D= .pointer A)(h2:w.cell? (Φ b2)=some (.int .i64 off))(h3:w.cell? (Φ b3)=some (.int .u64 x))
 (hc:Calls prog 175 #[D,.int .i64 off,.int .u64 x] w λe w'=>∃c:Int,e= .returned (.int .i64 c)/\Q c w'):
 Calls prog 174 #[Az b1,Az b2,Az b3] w λe w'=>∃c:Int,e= .returned (.int .i64 c)/\Q c w':=by
 obtain⟨A,rfl⟩:=hD;have HC:=Aa hc;clear hc;go_enter func174,ntmps174
 go_wp2_with fail
 refine HC.out.mono ?_;rintro e w'⟨c,rfl,hq⟩
 go_wp2_with fail
 go_ret;exact⟨c,rfl,hq⟩
def Zz{Q:Int->World->Prop}(b1 b2:Nat)(D:Value)(off:Int)(w:World)(h1:w.cell? (Φ b1)=some D)(hD:∃A,D= .pointer A)(h2:w.cell? (Φ b2)=some (.int .i64 off))
 (hc:Calls prog 177 #[D,.int .i64 off] w λe w'=>∃c:Int,e= .returned (.int .i64 c)/\Q c w'):
 Calls prog 176 #[Az b1,Az b2] w λe w'=>∃c:Int,e= .returned (.int .i64 c)/\Q c w':=by
 obtain⟨A,rfl⟩:=hD;have HC:=Aa hc;clear hc;go_enter func176,ntmps176
 go_wp2_with fail
 refine HC.out.mono ?_;rintro e w'⟨c,rfl,hq⟩
 go_wp2_with fail
 go_ret;exact⟨c,rfl,hq⟩
def fO(A:Option Addr)(n c:Nat)(Fs:Nat->Nat)(jK caps:Nat->Array Value)(I:Nat->World->Prop)(J:World->Prop)(w:World)(hn:n<=1000000)(h0:I 0 w)
 (hf:∀k,k<n->∀W,(callFunc (Fs k) (jK k++caps k)).run prog W= .ok (.enter (Fs k) (jK k++caps k)) W)
 (hrd:∀k W,I k W->Rd W A n ((D9 n).map λk=>Aqb (.func (Fs k)) (jK k) (caps k)))
 (hst:∀k W,k<n->I k W->Calls prog (Fs k) (jK k++caps k) W λe w'=>∃c:Int,e= .returned (.int .i64 c)/\((c=0/\I (k+1) w')\/(c=12/\J w'))):
 Calls prog 144 #[.slice A n c] w λe w'=>∃c:Int,e= .returned (.int .i64 c)/\((c=0/\I n w')\/(c=12/\J w')):=by
 have HRD:=Aa hrd;have HST:=Aa hst;have HFF:=Aa hf;clear hrd hst hf;go_enter func144,ntmps144
 go_wp2_with fail
 go_loopw [8](λi wr=>∃k:Nat,k<=n/\i= .int .i64 k/\I k wr)(λi _=>n- (intOf i).toNat)
 case atStart=>exact⟨0,BU _,rfl,h0⟩
 case round=>
  obtain⟨k,hk,rfl,hI⟩:=hrel;by_cases hlt:k<n
  ·obtain⟨b,off,rfl,hb,hcl⟩:=(HRD.out k wr hI).2 O;have hc:=hcl k hlt;simp only [BZ,List.getElem?_range hlt,DT]at hc;have hcall:=HST.out k wr hlt hI;have HC:=Aa hcall;have hcf:=HFF.out k hlt;clear hcl hcall h0
   go_wp2_with fail
   refine HC.out.mono ?_;rintro e w2⟨c,rfl,⟨rfl,hI2⟩| ⟨rfl,hJ⟩⟩
   ·clear HC hc hcf
    go_wp2_with fail
    go_roundw
    case rel=>exact⟨k+1,O,by go_num,hI2⟩
    case measure=>simp [intOf];omega
   ·clear HC hc hcf
    go_wp2_with fail
    go_ret;exact⟨12,rfl,.inr ⟨rfl,hJ⟩⟩
  ·have hkn:k=n:=O
   subst hkn
   go_wp2_with fail
   go_ret;exact⟨0,rfl,.inl ⟨rfl,hI⟩⟩
def Dv(w0:World)(d L g:Nat)(hb0:Nat->Option Nat)(ws:Nat->UInt64)(len:Mode)(mark:Nat->Nat)(W:World):Prop:=
 ∃hb,(∀b,Dh d L g hb b->Dh d L g hb0 b\/w0.heap.size<=b)/\BK W d L ws len mark g hb/\Touch (Dh d L g hb0) w0 W
def Dv.start{w0 W:World}{d L g:Nat}{hb0:Nat->Option Nat}{ws:Nat->UInt64}{len:Mode}{mark:Nat->Nat}(h:BK w0 d L ws len mark g hb0)(hb:η w0 W):Dv w0 d L g hb0 ws len mark W:=
 ⟨hb0,λ_ h=> .inl h,h.below hb,Touch.of_below hb⟩
def Afw{w0 W:World}{d L g:Nat}{hb0:Nat->Option Nat}{ws:Nat->UInt64}{len:Mode}{mark:Nat->Nat}(h:Dv w0 d L g hb0 ws len mark W)(hL:L<=1024)(hu:len.lf≠0)(j:Nat)(x:UInt64)(hj:j<8*L)(hlen:len (j/8)<=1000000):
 Calls prog 175 #[Az d,.int .i64 ((8*j:Nat):Int),.int .u64 (x.toNat:Int)] W λe w'=>e= .returned (.int .i64 0)/\
  ∃len':Mode,(len'=len\/len'=len.note (j/8) (8*(j%8),ws j))/\Dv w0 d L g hb0 (λi=>if i=j then x else ws i) len'.tick mark w':=by
 obtain⟨hb,ho,hr,ht⟩:=h;by_cases he:ws j=x
 ·subst he;refine(wz d L ws len mark g hb j W hL hu hr hj).mono ?_;rintro e w'⟨rfl,hr2,ht2⟩;refine⟨rfl,len,.inl rfl,hb,ho,?_,ht.trans ht2 (λb h=>ho b h)⟩;rw [show(λi=>if i=j then ws j else ws i)=ws by funext i;by_cases e:i=j<;>simp [e]];exact hr2
 ·refine(Ab5 d L ws len mark g hb j x W hL hu hr hj he hlen).mono ?_;rintro e w'⟨rfl,g2,hg2,hr2,ht2⟩;refine⟨rfl,_,.inr rfl,_,λb hb'=> ?_,hr2,ht.trans ht2 (λb h=>ho b h)⟩;rcases hb' with h| h| ⟨i,hi,h⟩
  ·exact .inl (.inl h)
  ·exact .inl (.inr (.inl h))
  ·change(if i=j/8 then some g2 else hb i)=some b at h;by_cases e:i=j/8
   ·rw [if_pos e]at h;injection h with h
    subst h;rcases hg2 with hg2| hg2
    ·exact ho _ (.inr (.inr ⟨j/8,O,hg2⟩))
    ·exact .inr (Bc ht.size hg2)
   ·rw [if_neg e]at h;exact ho _ (.inr (.inr ⟨i,hi,h⟩))
def Afx{w0 W:World}{d L g:Nat}{hb0:Nat->Option Nat}{ws:Nat->UInt64}{len:Mode}{mark:Nat->Nat}(h:Dv w0 d L g hb0 ws len mark W)(hL:L<=1024)(hu:len.lf≠0)(off:Nat)(hj:off<64*L)(hlen:len (off/64)<=1000001):
 Calls prog 177 #[Az d,.int .i64 (off:Int)] W λe w'=>e= .returned (.int .i64 0)/\
  Dv w0 d L g hb0 ws len.tick (λk=>if k=off/64 then len (off/64)+1 else mark k) w':=by
 obtain⟨hb,ho,hr,ht⟩:=h;refine(Ab6 d L ws len mark g hb off W hL hu hr hj hlen).mono ?_;rintro e w'⟨rfl,hr2,ht2⟩;exact⟨rfl,hb,ho,hr2,ht.trans ht2 (λb h=>ho b h)⟩
def Afy{w0 W:World}{d L g:Nat}{hb0:Nat->Option Nat}{ws:Nat->UInt64}{len:Mode}{mark:Nat->Nat}(h:Dv w0 d L g hb0 ws len mark W)(hL:L<=1024)(hL0:0<L)(hu:len.lf≠0)
 (hm:∀i,i<L->mark i=0\/mark i=len i+1)(hlen:∀i,i<L->len i<=1000000):
 Calls prog 147 #[Az d] W λe w'=>e= .returned (.int .i64 0)/\
  Dv w0 d L g hb0 ws (TG L len mark).tick (ML L mark) w':=by
 obtain⟨hb,ho,hr,ht⟩:=h;refine(Ab9 d L ws len mark g hb W hL hL0 hu hr hm hlen).mono ?_;rintro e w'⟨rfl,hr2,ht2⟩;refine⟨rfl,_,λb hb'=> ?_,hr2,ht.trans ht2 (λb h=>ho b h)⟩;rcases hb' with h| h| ⟨i,hi,h⟩
 ·exact .inl (.inl h)
 ·exact .inl (.inr (.inl h))
 ·unfold Ld at h;by_cases e:i<L/\mark i≠0
  ·rw [if_pos e]at h;cases h
  ·rw [if_neg e]at h;exact ho _ (.inr (.inr ⟨i,hi,h⟩))
def Dv.jL{w0 W:World}{d L g:Nat}{hb0:Nat->Option Nat}{ws:Nat->UInt64}{len:Mode}{mark:Nat->Nat}(h:Dv w0 d L g hb0 ws len mark W)(hd:len.lf=0):∃v2 v3,CS W d 78 [.slice (some (Φ g)) L L,.bool true,v2,v3]:=by
 obtain⟨hb,ho,hr,ht⟩:=h;obtain⟨st,hbx⟩:=hr.box;rw [decide_eq_true hd]at hbx;exact⟨_,_,hbx⟩
def Aca(ws:Nat->UInt64)(j:Nat):BO ws j []=ws:=by
 funext i;unfold BO;rw [if_neg Θ]
def wI(ws:Nat->UInt64)(j:Nat)(xs:List UInt64)(k:Nat)(hk:k<xs.length):(λi=>if i=j+k then xs[k]else BO ws j (xs.take k) i)=BO ws j (xs.take (k+1)):=by
 funext i;unfold BO;simp only [Dw,Ny (Nat.le_of_lt hk),Ny (show k+1<=xs.length from hk),Bi,CW];by_cases e:i=j+k
 ·subst e;rw [if_pos rfl,if_pos O,if_pos O,QK,Af hk];rfl
 ·rw [if_neg e];by_cases h:j<=i/\i<j+k
  ·rw [if_pos h,if_pos O,if_pos O,if_pos O]
  ·rw [if_neg h,if_neg O]
def wJ(ws:Nat->UInt64)(j:Nat)(xs:List UInt64)(k q:Nat):BO ws j (xs.take k) q=ws q\/BO ws j (xs.take k) q=BO ws j xs q:=by
 unfold BO;simp only [Dw,Bi,CW];by_cases h:j<=q/\q<j+min k xs.length
 ·right;rw [if_pos h,if_pos O,if_pos O]
 ·left;rw [if_neg h]
def fP(ws:Nat->UInt64)(j:Nat)(x:UInt64):BO ws j [x]=FN ws j x:=by
 funext i;unfold BO FN;by_cases e:i=j
 ·subst e;rw [if_pos Θ,if_pos rfl,Xq];rfl
 ·rw [if_neg (by simp;omega),if_neg e]
def Yo(lf:Int)(k:Nat):Int:=if lf<0 then lf else lf-k
def Afz(lf:Int):Yo lf 0=lf:=by unfold Yo;split<;>omega
def Ajs(k:Nat):Yo (-1) k= -1:=rfl
def Z4{len:Mode}{lf:Int}{k:Nat}(h:len.lf=Yo lf k)(hu:len.lf≠0)(hk:lf<0\/(k:Int)<=lf):len.tick.lf=Yo lf (k+1)/\(lf<0\/((k+1:Nat):Int)<=lf):=by
 show(if 0<len.lf then len.lf-1 else len.lf)=_/\_;rw [h]at hu⊢;unfold Yo at hu⊢;by_cases h0:lf<0
 ·simp only [if_pos h0];rw [if_neg O];exact⟨rfl,.inl h0⟩
 ·simp only [if_neg h0]at hu⊢;rw [if_pos O];exact⟨O,.inr O⟩
def Z5(ws:Nat->UInt64)(j n:Nat)(len:Mode):Prop:=∀i,∀c∈len.Nk i,∃t,t<8/\c.1=8*t/\j<=8*i+t/\8*i+t<j+n/\c.2=ws (8*i+t)
def wK(ws:Nat->UInt64)(j n:Nat)(lf:Int):Z5 ws j n (MU lf):=λ_ _ h=>nomatch h
def Af0(lf:Int)(W0:World)(d L g:Nat)(hb:Nat->Option Nat)(ws:Nat->UInt64)(j:Nat)(xs:List UInt64)(N:Nat)(W:World):Prop:=
 0<=lf/\lf<N/\∃(len:Mode)(Y5:Nat->UInt64)(mark:Nat->Nat),len.lf=0/\(∀i,len i<=1000000)/\Z5 ws j xs.length len/\(∀q,Y5 q=ws q\/Y5 q=BO ws j xs q)/\Dv W0 d L g hb Y5 len mark W
def Wrote(lf:Int)(N:Nat)(W0:World)(d L g:Nat)(hb:Nat->Option Nat)(ws:Nat->UInt64)(j:Nat)(xs:List UInt64)(c:Int)(W:World):Prop:=
 (c=0/\(lf<0\/(N:Int)<=lf)/\Dv W0 d L g hb (BO ws j xs) (MU (Yo lf N)) (λ_=>0) W)\/(c=12/\Af0 lf W0 d L g hb ws j xs N W)
def allI(lf:Int)(W0:World)(d L g:Nat)(hb:Nat->Option Nat)(ws:Nat->UInt64)(j:Nat)(xs:List UInt64)(m k:Nat)(W:World):Prop:=
 (lf<0\/(k:Int)<=lf)/\
 if k<=xs.length then∃len:Mode,len.lf=Yo lf k/\(∀i,len i<=k)/\Z5 ws j xs.length len/\Dv W0 d L g hb (BO ws j (xs.take k)) len (λ_=>0) W
 else if k<=xs.length+m then∃len:Mode,len.lf=Yo lf k/\(∀i,len i<=xs.length)/\Z5 ws j xs.length len/\Dv W0 d L g hb (BO ws j xs) len (λi=>if j/8<=i/\i<j/8+(k-xs.length)then len i+1 else 0) W
 else Dv W0 d L g hb (BO ws j xs) (MU (Yo lf k)) (λ_=>0) W
def wL{lf:Int}{W0:World}{d L g:Nat}{hb:Nat->Option Nat}{ws:Nat->UInt64}{j:Nat}{xs:List UInt64}{m k:Nat}{W:World}(h:allI lf W0 d L g hb ws j xs m k W):Touch (Dh d L g hb) W0 W:=by
 have h:=h.2;split at h
 ·obtain⟨_,_,_,_,_,_,_,t⟩:=h;exact t
 ·split at h
  ·obtain⟨_,_,_,_,_,_,_,t⟩:=h;exact t
  ·obtain⟨_,_,_,t⟩:=h;exact t
def Z7{lf:Int}{k N:Nat}(h:Yo lf k=0)(hk:k<N):0<=lf/\lf<N:=by
 unfold Yo at h;split at h<;>omega
section
variable{lf:Int}{W0 W:World}{d L g:Nat}{hb:Nat->Option Nat}{ws:Nat->UInt64}{j:Nat}{xs:List UInt64}{m:Nat}
def Acb(hL:L<=1024)(hj:j+xs.length<=8*L)(_:∀i,j<=i->i<j+xs.length->j/8<=i/8/\i/8<j/8+m){k:Nat}(hk:k<xs.length)(hn:xs.length<=100000)(h:allI lf W0 d L g hb ws j xs m k W):
 Calls prog 175 #[Az d,.int .i64 ((8*(j+k):Nat):Int),.int .u64 (xs[k].toNat:Int)] W λe w'=>∃c:Int,e= .returned (.int .i64 c)/\((c=0/\allI lf W0 d L g hb ws j xs m (k+1) w')\/(c=12/\Af0 lf W0 d L g hb ws j xs (xs.length+m+1) w')):=by
 obtain⟨hk0,h⟩:=h;rw [if_pos O]at h;obtain⟨len,h0,h1,h2,h3⟩:=h;by_cases hu:len.lf=0
 ·obtain⟨v2,v3,hB⟩:=h3.jL hu;refine(Zu d L g (8*(j+k)) _ v2 v3 W O hL hB).mono ?_;rintro e w'⟨rfl,rfl⟩;obtain⟨a1,a2⟩:=Z7 (N:=xs.length+m+1) (h0.symm.trans hu) O;exact⟨12,rfl,.inr ⟨rfl,a1,a2,len,_,_,hu,λi=>Ω (h1 i),h2,λq=>wJ ws j xs k q,h3⟩⟩
 ·refine(Afw h3 hL hu (j+k) xs[k] O (Ω (h1 ((j+k)/8)))).mono ?_;rintro e w'⟨rfl,len',hl,hd⟩;rw [wI ws j xs k hk]at hd;have hold:BO ws j (xs.take k) (j+k)=ws (j+k):=by unfold BO;rw [if_neg (by simp;omega)]
  rw [hold]at hl;have hl':len'.lf=len.lf/\(∀i,len' i<=k+1)/\Z5 ws j xs.length len':=by
   rcases hl with rfl| rfl
   ·exact⟨rfl,λi=>Ω (h1 i),h2⟩
   ·refine⟨rfl,λi=> ?_,λi c hc=> ?_⟩
    ·rw [Mode.Rx];split
     ·have:=h1 ((j+k)/8);omega
     ·have:=h1 i;omega
    ·change c∈(if i=(j+k)/8 then len.Nk ((j+k)/8)++[(8*((j+k)%8),ws (j+k))]else len.Nk i)at hc;split at hc
     ·rename_i e;rcases List.mem_append.1 hc with hc| hc
      ·rw [<-e]at hc;exact h2 i c hc
      ·rw [List.mem_singleton]at hc;subst hc;have e8:8*i+(j+k)%8=j+k:=O
       exact⟨(j+k)%8,O,rfl,O,O,by show ws (j+k)=_;rw [e8]⟩
     ·exact h2 i c hc
  obtain⟨g1,g2,g3⟩:=hl';obtain⟨b1,b2⟩:=Z4 (len:=len') (g1.trans h0) (by rw [g1];exact hu) hk0;refine⟨0,rfl,.inl ⟨rfl,b2,?_⟩⟩;rw [if_pos O];exact⟨len'.tick,b1,g2,g3,hd⟩
def Acd(hL:L<=1024)(hj:j+xs.length<=8*L)(hm2:∀t,t<m->8*(j/8+t)<j+xs.length){t:Nat}(ht:t<m)(hn:xs.length<=100000)(off:Nat)(e8:off/64=j/8+t)(h:allI lf W0 d L g hb ws j xs m (xs.length+t) W):
 Calls prog 177 #[Az d,.int .i64 (off:Int)] W λe w'=>∃c:Int,e= .returned (.int .i64 c)/\((c=0/\allI lf W0 d L g hb ws j xs m (xs.length+t+1) w')\/(c=12/\Af0 lf W0 d L g hb ws j xs (xs.length+m+1) w')):=by
 have hm:=hm2 t ht;obtain⟨hk0,h⟩:=h;have h':∃len:Mode,len.lf=Yo lf (xs.length+t)/\(∀i,len i<=xs.length)/\Z5 ws j xs.length len/\Dv W0 d L g hb (BO ws j xs) len (λi=>if j/8<=i/\i<j/8+t then len i+1 else 0) W:=by
  by_cases h0:t=0
  ·subst h0;rw [if_pos O]at h;obtain⟨len,z,a,b,c⟩:=h;refine⟨len,z,a,b,?_⟩;rw [Nat.add_zero,List.take_length]at c;have:(λi=>if j/8<=i/\i<j/8+0 then len i+1 else 0)=λ_=>0:=by funext i;rw [if_neg O]
   rw [this];exact c
  ·rw [if_neg O,if_pos O,QK]at h;exact h
 obtain⟨len,h0,h1,h2,h3⟩:=h';by_cases hu:len.lf=0
 ·obtain⟨v2,v3,hB⟩:=h3.jL hu;refine(Zv d L g off v2 v3 W O hL hB).mono ?_;rintro e w'⟨rfl,rfl⟩;obtain⟨a1,a2⟩:=Z7 (N:=xs.length+m+1) (h0.symm.trans hu) O;exact⟨12,rfl,.inr ⟨rfl,a1,a2,len,_,_,hu,λi=>Ω (h1 i),h2,λq=> .inr rfl,h3⟩⟩
 ·refine(Afx h3 hL hu off O (Ω (h1 (off/64)))).mono ?_;rintro e w'⟨rfl,hd⟩;obtain⟨b1,b2⟩:=Z4 h0 hu hk0;refine⟨0,rfl,.inl ⟨rfl,b2,?_⟩⟩;rw [if_neg O,if_pos O];refine⟨len.tick,b1,h1,h2,?_⟩;rw [e8]at hd;have:(λk=>if k=j/8+t then len (j/8+t)+1 else if j/8<=k/\k<j/8+t then len k+1 else 0)=(λi=>if j/8<=i/\i<j/8+(xs.length+t+1-xs.length)then len i+1 else 0):=by
   funext i;by_cases e:i=j/8+t
   ·subst e;rw [if_pos rfl,if_pos O]
   ·rw [if_neg e];by_cases h:j/8<=i/\i<j/8+t
    ·rw [if_pos h,if_pos O]
    ·rw [if_neg h,if_neg O]
  rw [this]at hd;exact hd
def Ace(hL:L<=1024)(hL0:0<L)(hn:xs.length<=100000)(hm0:0<m)(hmL:j/8+m<=L)(hm:∀i,j<=i->i<j+xs.length->j/8<=i/8/\i/8<j/8+m)(h:allI lf W0 d L g hb ws j xs m (xs.length+m) W):
 Calls prog 147 #[Az d] W λe w'=>∃c:Int,e= .returned (.int .i64 c)/\((c=0/\allI lf W0 d L g hb ws j xs m (xs.length+m+1) w')\/(c=12/\Af0 lf W0 d L g hb ws j xs (xs.length+m+1) w')):=by
 obtain⟨hk0,h⟩:=h;rw [if_neg O,if_pos O,QK]at h;obtain⟨len,h0,h1,h2,h3⟩:=h;by_cases hu:len.lf=0
 ·obtain⟨v2,v3,hB⟩:=h3.jL hu;refine(Zw d L g v2 v3 W O hL hB).mono ?_;rintro e w'⟨rfl,rfl⟩;obtain⟨a1,a2⟩:=Z7 (N:=xs.length+m+1) (h0.symm.trans hu) O;exact⟨12,rfl,.inr ⟨rfl,a1,a2,len,_,_,hu,λi=>Ω (h1 i),h2,λq=> .inr rfl,h3⟩⟩
 ·refine(Afy h3 hL hL0 hu (λi _=> ?_) (λi _=>Ω (h1 i))).mono ?_
  ·by_cases e:j/8<=i/\i<j/8+m
   ·right;show(if _ then _ else _)=_;rw [if_pos e]
   ·left;show(if _ then _ else _)=_;rw [if_neg e]
  rintro e w'⟨rfl,hd⟩;obtain⟨b1,b2⟩:=Z4 h0 hu hk0;refine⟨0,rfl,.inl ⟨rfl,b2,?_⟩⟩;rw [if_neg O,if_neg O];have e1:(TG L len (λi=>if j/8<=i/\i<j/8+m then len i+1 else 0)).tick=MU (Yo lf (xs.length+m+1)):=by
   rw [<-b1];show Mode.mk (λi=>if i<L/\(λi=>if j/8<=i/\i<j/8+m then len i+1 else 0) i≠0 then []else len.Nk i) _=Mode.mk (λ_=>[]) _;congr 1;funext i;by_cases e:j/8<=i/\i<j/8+m
   ·rw [if_pos ⟨O,by show(if _ then _ else _)≠0;rw [if_pos e];omega⟩]
   ·rw [if_neg (by rintro⟨_,h0⟩;exact h0 (if_neg e))];cases hc:len.Nk i with
    | nil=>rfl
    | cons c l=>
      obtain⟨t,t1,t2,t3,t4,t5⟩:=h2 i c (by rw [hc];exact Bh ..);have:=hm (8*i+t) t3 t4;exact absurd (show j/8<=i/\i<j/8+m by omega) e
  have e2:ML L (λi=>if j/8<=i/\i<j/8+m then len i+1 else 0)=λ_=>0:=by
   funext i;unfold ML;by_cases e:i<L
   ·rw [if_pos e]
   ·rw [if_neg e];exact if_neg O
  rw [e1,e2]at hd;exact hd
def Dv.back{w:World}{Y5:Nat->UInt64}{len:Mode}{mark:Nat->Nat}(h:Dv W0 d L g hb Y5 len mark W)(hB:η w W0):Dv w d L g hb Y5 len mark W:=by
 obtain⟨hb',ho,hr,ht⟩:=h;exact⟨hb',λb h=>(ho b h).imp id (λe=>Bc hB.size e),hr,(Touch.of_below hB).trans ht (λb h=> .inl h)⟩
def Wrote.back{w:World}{N:Nat}{c:Int}(h:Wrote lf N W0 d L g hb ws j xs c W)(hB:η w W0):Wrote lf N w d L g hb ws j xs c W:=by
 rcases h with⟨h1,h2,h3⟩| ⟨h1,h2,h3,len,Y5,mark,h4,h5,h6,h7,h8⟩
 ·exact .inl ⟨h1,h2,h3.back hB⟩
 ·exact .inr ⟨h1,h2,h3,len,Y5,mark,h4,h5,h6,h7,h8.back hB⟩
def Wrote.up{N:Nat}{c:Int}(h:Wrote (-1) N W0 d L g hb ws j xs c W):c=0/\Dv W0 d L g hb (BO ws j xs) M0 (λ_=>0) W:=by
 rcases h with⟨h1,h2,h3⟩| ⟨_,h2,_⟩
 ·exact⟨h1,h3⟩
 ·omega
end
def Vs(l:Array Value)(W:World):(callFunc 174 l).run prog W= .ok (.enter 174 l) W:=by
 simp [callFunc,func174,Tryz.f174]
def Vt(l:Array Value)(W:World):(callFunc 176 l).run prog W= .ok (.enter 176 l) W:=by
 simp [callFunc,func176,Tryz.f176]
def Vu(l:Array Value)(W:World):(callFunc 147 l).run prog W= .ok (.enter 147 l) W:=by
 simp [callFunc,func147,Tryz.f147]
structure Stp(d:Nat)(own:Nat->Prop)(j m:Nat)(xs:List UInt64)(W0:World)(I:Nat->World->Prop)(J:World->Prop):Prop where
 start:I 0 W0
 touch:∀k W,I k W->Touch own W0 W
 store:∀k(hk:k<xs.length)W,I k W->Calls prog 175 #[Az d,.int .i64 ((8*(j+k):Nat):Int),.int .u64 (xs[k].toNat:Int)] W λe w'=>∃c:Int,e= .returned (.int .i64 c)/\((c=0/\I (k+1) w')\/(c=12/\J w'))
 flush:∀t,t<m->∀off:Nat,off/64=j/8+t->∀W,I (xs.length+t) W->Calls prog 177 #[Az d,.int .i64 (off:Int)] W λe w'=>∃c:Int,e= .returned (.int .i64 c)/\((c=0/\I (xs.length+t+1) w')\/(c=12/\J w'))
 fence:∀W,I (xs.length+m) W->Calls prog 147 #[Az d] W λe w'=>∃c:Int,e= .returned (.int .i64 c)/\((c=0/\I (xs.length+m+1) w')\/(c=12/\J w'))
def zW{lf:Int}{W0:World}{d L g:Nat}{hb:Nat->Option Nat}{ws:Nat->UInt64}{j:Nat}{xs:List UInt64}{m:Nat}(hL0:0<L)(hL:L<=1024)(h:BK W0 d L ws (MU lf) (λ_=>0) g hb)(hj:j+xs.length<=8*L)(hn:xs.length<=100000)(hm0:0<m)(hmL:j/8+m<=L)
 (hm:∀i,j<=i->i<j+xs.length->j/8<=i/8/\i/8<j/8+m)(hm2:∀t,t<m->8*(j/8+t)<j+xs.length):Stp d (Dh d L g hb) j m xs W0 (allI lf W0 d L g hb ws j xs m) (Af0 lf W0 d L g hb ws j xs (xs.length+m+1))where
 start:=by
  refine⟨O,?_⟩;rw [if_pos (BU _)];refine⟨MU lf,(Afz lf).symm,λ_=>Ad _,wK _ _ _ _,?_⟩;rw [List.take_zero,Aca];exact Dv.start h (Below.refl _ _)
 touch _ _ hi:=wL hi
 store _ hk _ hi:=Acb hL hj hm hk hn hi
 flush _ ht off e _ hi:=Acd hL hj hm2 ht hn off e hi
 fence _ hi:=Ace hL hL0 hn hm0 hmL hm hi
def oZ{W0:World}{d L g:Nat}{v2 v3:Value}(hL0:0<L)(hL:L<=1024)(hB:CS W0 d 78 [.slice (some (Φ g)) L L,.bool true,v2,v3])(own:Nat->Prop)(j m:Nat)(xs:List UInt64):Stp d own j m xs W0 (λk W=>k=0/\W=W0) (λW=>W=W0)where
 start:=⟨rfl,rfl⟩
 touch _ _ hi:=hi.2▸Touch.refl _ _
 store k _ W hi:=by
  obtain⟨_,rfl⟩:=hi;refine(Zu d L g (8*(j+k)) _ v2 v3 W hL0 hL hB).mono ?_;rintro e w'⟨rfl,rfl⟩;exact⟨12,rfl,.inr ⟨rfl,rfl⟩⟩
 flush _ _ off _ W hi:=by
  obtain⟨_,rfl⟩:=hi;refine(Zv d L g off v2 v3 W hL0 hL hB).mono ?_;rintro e w'⟨rfl,rfl⟩;exact⟨12,rfl,.inr ⟨rfl,rfl⟩⟩
 fence W hi:=by
  obtain⟨_,rfl⟩:=hi;refine(Zw d L g v2 v3 W hL0 hL hB).mono ?_;rintro e w'⟨rfl,rfl⟩;exact⟨12,rfl,.inr ⟨rfl,rfl⟩⟩
def Ajt{own:Nat->Prop}{I:Nat->World->Prop}{J:World->Prop}(d j:Nat)(x:UInt64)(w W0:World)(hown:∀b,w.heap.size<=b->¬own b)(hS:Stp d own j 1 [x] W0 I J)
 (b1 b2 b3 b4 b5 s:Nat)(T:TypeId)(hb1:w.heap.size<=b1)(hb2:w.heap.size<=b2)(hb3:w.heap.size<=b3)(hb4:w.heap.size<=b4)(hb5:w.heap.size<=b5)(hs:w.heap.size<=s)
 (c1:W0.cell? (Φ b1)=some (Az d))(c2:W0.cell? (Φ b2)=some (.int .i64 ((8*j:Nat):Int)))(c3:W0.cell? (Φ b3)=some (.int .u64 (x.toNat:Int)))
 (c4:W0.cell? (Φ b4)=some (Az d))(c5:W0.cell? (Φ b5)=some (.int .i64 ((8*j:Nat):Int)))
 (cs:W0.heap[s]? =some (.cells #[.func (.func 174) #[] #[Az b1,Az b2,Az b3],.func (.func 176) #[] #[Az b4,Az b5],.func (.func 147) #[Az d] #[]] T (0,0))):
 Calls prog 144 #[.slice (some (Φ s)) 3 3] W0 λe w'=>∃c:Int,e= .returned (.int .i64 c)/\((c=0/\I 3 w')\/(c=12/\J w')):=by
 have keep:∀{k W},I k W->∀(b:Nat)(v:Value),w.heap.size<=b->W0.cell? (Φ b)=some v->W.cell? (Φ b)=some v:=λhi b v hle hc=>
  (BA (a:=Φ b) ((hS.touch _ _ hi).block b (D6 W0 (Φ b) hc) (hown b hle))).trans hc
 refine(fO _ 3 3 (λk=>if k=0 then 174 else if k=1 then 176 else 147)
  (λk=>if k=2 then#[Az d]else#[])
  (λk=>if k=0 then#[Az b1,Az b2,Az b3]else if k=1 then#[Az b4,Az b5]else#[])
  I J W0 U hS.start ?_ ?_ ?_)
 ·intro k hk W
  match k,hk with
  | 0,_=>exact Vs _ W
  | 1,_=>exact Vt _ W
  | 2,_=>exact Vu _ W
 ·intro k W hi;have hcs:=((hS.touch _ _ hi).block s (AB.1 cs).1 (hown s hs)).trans cs;refine⟨rfl,λ_=>⟨s,0,rfl,(AB.1 hcs).1,λt ht=> ?_⟩⟩;rw [Nat.zero_add,cell_of_row W s t _ T (0,0) hcs]
  match t,ht with
  | 0,_=>rfl
  | 1,_=>rfl
  | 2,_=>rfl
 ·intro k W hk hi
  match k,hk with
  | 0,_=>exact Zy b1 b2 b3 _ _ _ W (keep hi _ _ hb1 c1) ⟨_,rfl⟩ (keep hi _ _ hb2 c2) (keep hi _ _ hb3 c3) (hS.store 0 Θ W hi)
  | 1,_=>
    exact Zz b4 b5 _ _ W (keep hi _ _ hb4 c4) ⟨_,rfl⟩ (keep hi _ _ hb5 c5) (hS.flush 0 U (8*j) O W hi)
  | 2,_=>exact hS.fence W hi
def zX{own:Nat->Prop}{I:World->Nat->World->Prop}{J:World->World->Prop}(d j:Nat)(x:UInt64)(w:World)(hown:∀b,own b->b<w.heap.size)(hS:∀W0,η w W0->Stp d own j 1 [x] W0 (I W0) (J W0)):
 Calls prog 95 #[Az d,.int .i64 ((8*j:Nat):Int),.int .u64 (x.toNat:Int)] w λe w'=>∃W0,η w W0/\∃c:Int,e= .returned (.int .i64 c)/\((c=0/\I W0 3 w')\/(c=12/\J W0 w')):=by
 have Z8:=Aa (λb(h1:w.heap.size<=b)(h2:own b)=>Am2 _ (BQ (hown b h2) h1));have HS:=Aa hS;clear hown hS;go_enter func95,ntmps95
 go_wp2_with fail
 refine(oV d _ _ w).mono ?_;rintro e w'⟨rfl,rfl⟩
 go_wp2_with fail
 refine(oW d _ _).mono ?_;rintro e w'⟨rfl,rfl⟩
 go_wp2_with fail
 have hB:=((((((Below.refl w.heap.size w).alloc (Ad _) (.cells #[Az d] 24)).alloc Θ (.cells #[.int .i64 (8*(j:Int))] 3)).alloc (by simp;omega) (.cells #[.int .u64 (x.toNat:Int)] 28)).alloc (by simp;omega) (.cells #[Az d] 24)).alloc (by simp;omega) (.cells #[.int .i64 (8*(j:Int))] 3)).alloc (by simp;omega)
  (.cells #[.func (.func 174) #[] #[Az w.heap.size,Az (w.heap.size+1),Az (w.heap.size+1+1)],.func (.func 176) #[] #[Az (w.heap.size+1+1+1),Az (w.heap.size+1+1+1+1)],.func (.func 147) #[Az d] #[]] 249)
 refine(Ajt d j x w _ Z8.out (HS.out _ hB) w.heap.size (w.heap.size+1) (w.heap.size+1+1) (w.heap.size+1+1+1) (w.heap.size+1+1+1+1) (w.heap.size+1+1+1+1+1) 249 O O O O O O ((Dc _ _ _ (by first| (simp;done)| (simp;omega))).trans<| ((Dc _ _ _ (by first| (simp;done)| (simp;omega))).trans<| ((Dc _ _ _ (by first| (simp;done)| (simp;omega))).trans<| ((Dc _ _ _ (by first| (simp;done)| (simp;omega))).trans<| ((Dc _ _ _ (by first| (simp;done)| (simp;omega))).trans<| by simp))))) (by simp [Dc,Jn]) (by simp [Dc,Jn]) (by simp [Dc,Jn]) (by simp [Dc,Jn]) (by rw [show w.heap.size+1+1+1+1+1=((((((w.alloc (.cells #[Az d] 24)).alloc (.cells #[.int .i64 (8*(j:Int))] 3)).alloc (.cells #[.int .u64 (x.toNat:Int)] 28)).alloc (.cells #[Az d] 24)).alloc (.cells #[.int .i64 (8*(j:Int))] 3))).heap.size by simp];exact heap_alloc_new _ _)).mono ?_;rintro e w'⟨c,rfl,hp⟩;have HP:=Aa (⟨_,hB,c,rfl,hp⟩:∃W0,η w W0/\∃c':Int,Ending.returned (.int .i64 c)= .returned (.int .i64 c')/\((c'=0/\I W0 3 w')\/(c'=12/\J W0 w')));clear hp hB Z8 HS
 go_wp2_with fail
 go_ret;exact HP.out
def pg(lf:Int)(d L g:Nat)(hb:Nat->Option Nat)(ws:Nat->UInt64)(j:Nat)(x:UInt64)(w:World)(hL0:0<L)(hL:L<=1024)(h:BK w d L ws (MU lf) (λ_=>0) g hb)(hj:j<8*L):
 Calls prog 95 #[Az d,.int .i64 ((8*j:Nat):Int),.int .u64 (x.toNat:Int)] w λe w'=>∃c:Int,e= .returned (.int .i64 c)/\Wrote lf 3 w d L g hb ws j [x] c w':=by
 refine(zX d j x w h.lt (λW0 hB=>zW (m:=1) hL0 hL (h.below hB) (xs:=[x]) (by simp only [BB,Du];omega) Θ U O (λi h1 h2=>by simp only [BB,Du]at h2;omega) (λt ht=>by simp only [BB,Du];omega))).mono ?_;rintro e w'⟨W0,hB,c,rfl,hi⟩;refine⟨c,rfl,Wrote.back (W0:=W0) ?_ hB⟩;rcases hi with⟨h1,hi⟩| ⟨h1,hi⟩
 ·refine .inl ⟨h1,hi.1,?_⟩;have:=hi.2;rw [if_neg Θ,if_neg Θ]at this;exact this
 ·exact .inr ⟨h1,hi⟩
def Af1(d L g j:Nat)(x:UInt64)(v2 v3:Value)(_:Nat->Prop)(w:World)(hL0:0<L)(hL:L<=1024)(hB:CS w d 78 [.slice (some (Φ g)) L L,.bool true,v2,v3]):
 Calls prog 95 #[Az d,.int .i64 ((8*j:Nat):Int),.int .u64 (x.toNat:Int)] w λe w'=>e= .returned (.int .i64 12)/\η w w':=by
 refine(zX (own:=λ_=>False) d j x w (λ_ h=>h.elim) (λW0 hb=>oZ hL0 hL (hB.ξ hb) _ j 1 [x])).mono ?_;rintro e w'⟨W0,hb,c,rfl,⟨_,h1,_⟩| ⟨rfl,rfl⟩⟩
 ·exact absurd h1 U
 ·exact⟨rfl,hb⟩
def Aju(d L g:Nat)(hb:Nat->Option Nat)(ws:Nat->UInt64)(j:Nat)(x:UInt64)(w:World)(hL0:0<L)(hL:L<=1024)(h:BK w d L ws M0 (λ_=>0) g hb)(hj:j<8*L):
 Calls prog 95 #[Az d,.int .i64 ((8*j:Nat):Int),.int .u64 (x.toNat:Int)] w λe w'=>e= .returned (.int .i64 0)/\
  Dv w d L g hb (λi=>if i=j then x else ws i) M0 (λ_=>0) w':=by
 refine(pg (-1) d L g hb ws j x w hL0 hL h hj).mono ?_;rintro e w'⟨c,rfl,hp⟩;obtain⟨rfl,hd⟩:=hp.up;rw [fP]at hd;exact⟨rfl,hd⟩
def Py(ws:Nat->UInt64)(j n:Nat):List UInt64:=(D9 n).map λt=>ws (j+t)
def II(ws:Nat->UInt64)(j n k:Nat):List UInt64:=(D9 n).map λt=>if t<k then ws (j+t)else 0
def dG(ws:Nat->UInt64)(j n:Nat):II ws j n 0=BC n 0:=by
 apply Eu<;>simp [II]
def jM(ws:Nat->UInt64)(j n:Nat):II ws j n n=Py ws j n:=by
 apply Eu
 ·simp [II,Py]
 ·intro t h1 h2;have:t<n:=by simpa [II]using h1
  simp [II,Py,this]
def jO(ws:Nat->UInt64)(j n k:Nat):((II ws j n k).map wv).set k (wv (ws (j+k)))=(II ws j n (k+1)).map wv:=by
 rw [<-List.map_set];congr 1;apply Eu
 ·simp [II]
 ·intro t h1 h2;rw [KG];by_cases e:k=t
  ·subst e;rw [if_pos rfl];simp [II]
  ·rw [if_neg e];have:(t<k+1)=(t<k):=by apply propext;omega
   simp [II,this]
def Y7(d L:Nat)(ws:Nat->UInt64)(len:Mode)(mark:Nat->Nat)(g:Nat)(hb:Nat->Option Nat)(j n:Nat)(w:World)(hL0:0<L)(hL:L<=1024)(hu:len.lf≠0)(h:BK w d L ws len mark g hb)(hj:j+n<=8*L):
 Calls prog 33 #[Az d,.int .i64 ((8*j:Nat):Int),.int .i64 (n:Int)] w λe w'=>∃v,e= .returned (.tuple #[v,.int .i64 0])/\
  w'.ownsRow w.heap.size 28 1 v n ((Py ws j n).map wv)/\η w w':=by
 obtain⟨i0,hi,hz0,hz1,hz2⟩:=info_parts Tryz.Jp.hi;obtain⟨st,hbx⟩:=h.box;have HW:=Aa (fM d L g (8*j) n _ _ _ w O hL hbx O O);have H:=Aa h;clear h hbx;go_enter func33,ntmps33
 go_wp2_with fail
 refine HW.out.mono ?_;rintro e w'⟨rfl,rfl⟩;clear HW
 go_wp2_with(at_make;refine wpList_make_full _ rfl _ _ 91 rfl w.heap.size 28 i0 (.int .u64 0) 1 underlying91 hi hz0 hz1 .i64 .i64 _ _ n rfl rfl rfl rfl (by rw [hz2];omega) (by unfold maxLen;omega) (Ad _) ?_;intro w0 hown0 hgrow0)
 rw [Lj,<-dG ws j n]at hown0;have hb0:η w w0:=(Below.refl _ _).grown hgrow0 (Ad _) Θ;clear hgrow0
 go_loopw [24](λi wr=>∃k:Nat,k<=n/\i= .int .i64 k/\wr.ownsRow w.heap.size 28 1 (.slice (some (Φ w.heap.size)) n n) n ((II ws j n k).map wv)/\η w wr)(λi _=>n- (intOf i).toNat)
 case atStart=>exact⟨0,BU _,rfl,hown0,hb0⟩
 case round=>
  obtain⟨k,hk,rfl,hown,hbr⟩:=hrel;clear hown0 hb0;by_cases hlt:k<n
  ·have HL:=Aa (Vp d L ws len mark g hb (j+k) wr hL hu (H.out.below hbr) O);obtain⟨⟨v0,hv0⟩,hf0⟩:=Tc hown hlt;have hown2:=O6 (u:=wv (ws (j+k))) hown hlt;rw [jO]at hown2;have HO:=Aa hown2;have hb2:=hbr.setCell (p:=Δ w.heap.size k) (Ad _) (wv (ws (j+k)));have HB:=Aa hb2;clear hown hown2 hb2 hbr
   go_wp2_with fail
   rw [show(8*(j:Int)+8*(k:Int))=((8*(j+k):Nat):Int)by omega];refine HL.out.mono ?_;rintro e w2⟨rfl,rfl⟩;clear HL
   go_wp2_with fail
   go_roundw
   case rel=>exact⟨k+1,O,by go_num,HO.out,HB.out⟩
   case measure=>simp [intOf];omega
  ·have hkn:k=n:=O
   subst hkn;rw [jM]at hown
   go_wp2_with fail
   go_ret2;exact⟨_,rfl,hown,hbr⟩
def Vw(w:World)(B d:Nat)(v:Value)(j:Nat)(x:UInt64):Prop:=
 ∃b1 b2 b3,v= .func (.func 174) #[] #[Az b1,Az b2,Az b3]/\B<=b1/\B<=b2/\B<=b3/\
  w.heap[b1]? =some (.cells #[Az d] 24 (0,0))/\w.heap[b2]? =some (.cells #[.int .i64 ((8*j:Nat):Int)] 3 (0,0))/\w.heap[b3]? =some (.cells #[.int .u64 (x.toNat:Int)] 28 (0,0))
def Z9(w:World)(B d:Nat)(v:Value)(off:Nat):Prop:=
 ∃b1 b2,v= .func (.func 176) #[] #[Az b1,Az b2]/\B<=b1/\B<=b2/\
  w.heap[b1]? =some (.cells #[Az d] 24 (0,0))/\w.heap[b2]? =some (.cells #[.int .i64 (off:Int)] 3 (0,0))
def QM(T:TypeId)(w w':World):Prop:=∀(b:Nat)(cs:Array Value)(t:TypeId)(fz:Nat×Nat),t≠T->w.heap[b]? =some (.cells cs t fz)->w'.heap[b]? =some (.cells cs t fz)
def QM.below{T:TypeId}{w w':World}(h:η w w'):QM T w w':=λb _ _ _ _ e=>(h.block b (AB.1 e).1).trans e
def Vw.stays{w w':World}{B d:Nat}{v:Value}{j:Nat}{x:UInt64}(h:Vw w B d v j x)(k:QM 249 w w'):Vw w' B d v j x:=by
 obtain⟨b1,b2,b3,e,h1,h2,h3,c1,c2,c3⟩:=h;exact⟨b1,b2,b3,e,h1,h2,h3,k _ _ _ _ U c1,k _ _ _ _ U c2,k _ _ _ _ U c3⟩
def Z9.stays{w w':World}{B d:Nat}{v:Value}{off:Nat}(h:Z9 w B d v off)(k:QM 249 w w'):Z9 w' B d v off:=by
 obtain⟨b1,b2,e,h1,h2,c1,c2⟩:=h;exact⟨b1,b2,e,h1,h2,k _ _ _ _ U c1,k _ _ _ _ U c2⟩
def Tryz.jP:MH prog 284 249 .nilFunc 8:=⟨underlying284,by kernel_rfl,rfl⟩
def QM.kept{T:TypeId}{w w':World}{base n:Nat}{v:Value}{xs:List Value}(ho:w.ownsRow base T 1 v n xs)(h:Kept w w' v.ownBlock):QM T w w':=by
 intro b cs t fz ht e;refine(h.2 b (AB.1 e).1 (λhb=> ?_)).trans e;rcases ho.2 with⟨rfl,_⟩| ⟨g,cap,cur,rfl,_,hg,_⟩
 ·cases hb
 ·have:b=g:=by simpa [Value.ownBlock]using hb
  subst this;rw [e]at hg;injection hg with hg
  injection hg with _ h2 _
  exact ht h2
def dH(B d j:Nat)(x:UInt64)(w:World)(hB:B<=w.heap.size):
 Calls prog 145 #[Az d,.int .i64 ((8*j:Nat):Int),.int .u64 (x.toNat:Int)] w λe w'=>∃v,e= .returned v/\Vw w' B d v j x/\v.oneCell'=true/\η w w':=by
 refine(oV d _ _ w).mono ?_;rintro e w'⟨rfl,rfl⟩;have s1:(w.alloc (.cells #[Az d] 24)).heap.size=w.heap.size+1:=by simp
 have s2:((w.alloc (.cells #[Az d] 24)).alloc (.cells #[.int .i64 ((8*j:Nat):Int)] 3)).heap.size=w.heap.size+1+1:=by simp
 refine⟨_,rfl,⟨w.heap.size,w.heap.size+1,w.heap.size+1+1,rfl,hB,O,O,?_,?_,?_⟩,rfl,(((Below.refl _ _).alloc (Ad _) _).alloc O _).alloc O _⟩
 ·exact(χ _ _ O).trans ((χ _ _ O).trans (heap_alloc_new _ _))
 ·refine(χ _ _ O).trans ?_;rw [<-s1];exact heap_alloc_new _ _
 ·rw [<-s2];exact heap_alloc_new _ _
def dI(B d off:Nat)(w:World)(hB:B<=w.heap.size):
 Calls prog 146 #[Az d,.int .i64 (off:Int)] w λe w'=>∃v,e= .returned v/\Z9 w' B d v off/\v.oneCell'=true/\η w w':=by
 refine(oW d _ w).mono ?_;rintro e w'⟨rfl,rfl⟩;have s1:(w.alloc (.cells #[Az d] 24)).heap.size=w.heap.size+1:=by simp
 refine⟨_,rfl,⟨w.heap.size,w.heap.size+1,rfl,hB,O,?_,?_⟩,rfl,((Below.refl _ _).alloc (Ad _) _).alloc O _⟩
 ·exact(χ _ _ O).trans (heap_alloc_new _ _)
 ·rw [<-s1];exact heap_alloc_new _ _
def ZA:Value->Array Value
 | .func _ _ c=>c
 | _=> #[]
def wM{own:Nat->Prop}{I:Nat->World->Prop}{J:World->Prop}(d j m:Nat)(xs:List UInt64)(w W0:World)(hown:∀b,w.heap.size<=b->¬own b)(hT:Stp d own j m xs W0 I J)(hx:xs.length+m<1000000)
 (S:List Value)(hS1:∀t v x,t<xs.length->S[t]? =some v->xs[t]? =some x->Vw W0 w.heap.size d v (j+t) x)(hS2:∀t v,t<m->S[xs.length+t]? =some v->Z9 W0 w.heap.size d v (64*(j/8+t)))
 (hS3:S[xs.length+m]? =some (.func (.func 147) #[Az d] #[]))(hSl:S.length=xs.length+m+1)
 (A:Option Addr)(c:Nat)(hrow:Rd W0 A (xs.length+m+1) S)(hA:∀a,A=some a->w.heap.size<=a.block):
 Calls prog 144 #[.slice A ((xs.length+m+1:Nat)) c] W0 λe w'=>∃c:Int,e= .returned (.int .i64 c)/\((c=0/\I (xs.length+m+1) w')\/(c=12/\J w')):=by
 have keep:∀{k W},I k W->∀(b:Nat)(cs:Array Value)(t:TypeId),w.heap.size<=b->W0.heap[b]? =some (.cells cs t (0,0))->W.heap[b]? =some (.cells cs t (0,0)):=λhi b cs t hle hc=>
  ((hT.touch _ _ hi).block b (AB.1 hc).1 (hown b hle)).trans hc
 have cellOf:∀{W:World}{b:Nat}{v:Value}{t:TypeId},W.heap[b]? =some (.cells #[v] t (0,0))->W.cell? (Φ b)=some v:=λhc=>by rw [cell_of_row _ _ 0 _ _ (0,0) hc];rfl
 refine(fO A (xs.length+m+1) c (λk=>if k<xs.length then 174 else if k<xs.length+m then 176 else 147)
  (λk=>if k=xs.length+m then#[Az d]else#[]) (λk=>ZA (S.getD k .nilFunc)) I J W0 O hT.start ?_ ?_ ?_)
 ·intro k hk W;by_cases h1:k<xs.length
  ·simp only [if_pos h1];exact Vs _ W
  ·by_cases h2:k<xs.length+m
   ·simp only [if_neg h1,if_pos h2];exact Vt _ W
   ·simp only [if_neg h1,if_neg h2];exact Vu _ W
 ·intro k W hi;have hr:Rd W A (xs.length+m+1) S:=hrow.touch (hT.touch _ _ hi) (λa e ho=>hown _ (hA a e) ho);have hSe:S=(D9 (xs.length+m+1)).map λk=>Aqb (.func (if k<xs.length then 174 else if k<xs.length+m then 176 else 147)) (if k=xs.length+m then#[Az d]else#[]) (ZA (S.getD k .nilFunc)):=by
   apply Eu
   ·simp [hSl]
   ·intro t h1 h2;rw [List.getElem_map,List.getElem_range,Bi,Af h1];by_cases c1:t<xs.length
    ·obtain⟨b1,b2,b3,e,_⟩:=hS1 t _ _ c1 (Af h1) (Af c1);rw [if_pos c1,if_neg O,e];rfl
    ·by_cases c2:t<xs.length+m
     ·obtain⟨b1,b2,e,_⟩:=hS2 (t-xs.length) S[t] O (by rw [show xs.length+(t-xs.length)=t by omega];exact Af h1);rw [if_neg c1,if_pos c2,if_neg O,e];rfl
     ·have c3:t=xs.length+m:=O
      subst c3;rw [Af h1]at hS3;injection hS3 with hS3
      rw [if_neg c1,if_neg c2,if_pos rfl,hS3];rfl
  rw [<-hSe];exact hr
 ·intro k W hk hi;by_cases c1:k<xs.length
  ·obtain⟨b1,b2,b3,e,l1,l2,l3,k1,k2,k3⟩:=hS1 k _ _ c1 (Af O) (Af c1);simp only [if_pos c1,if_neg (show¬k=xs.length+m by omega),Bi,Af (show k<S.length by omega),Pj,e,ZA];exact Zy b1 b2 b3 _ _ _ W (cellOf (keep hi _ _ _ l1 k1)) ⟨_,rfl⟩ (cellOf (keep hi _ _ _ l2 k2)) (cellOf (keep hi _ _ _ l3 k3)) (hT.store k c1 W hi)
  ·by_cases c2:k<xs.length+m
   ·obtain⟨b1,b2,e,l1,l2,k1,k2⟩:=hS2 (k-xs.length) S[k] O (by rw [show xs.length+(k-xs.length)=k by omega];exact Af O);simp only [if_neg c1,if_pos c2,if_neg (show¬k=xs.length+m by omega),Bi,Af (show k<S.length by omega),Pj,e,ZA];have:=hT.flush (k-xs.length) O (64*(j/8+(k-xs.length))) O W (by rw [show xs.length+(k-xs.length)=k by omega];exact hi);rw [show xs.length+(k-xs.length)+1=k+1 by omega]at this;exact Zz b1 b2 _ _ W (cellOf (keep hi _ _ _ l1 k1)) ⟨_,rfl⟩ (cellOf (keep hi _ _ _ l2 k2)) this
   ·have c3:k=xs.length+m:=O
    subst c3;simp only [if_neg c1,if_neg c2,if_true,Bi,hS3,Pj,ZA];exact hT.fence W hi
def ZB {own : Nat -> Prop} {I : World -> Nat -> World -> Prop} {J : World -> World -> Prop} (d L g : Nat) (v1 v2 v3 : Value) (j n c : Nat) (A : Option Addr) (xs : List UInt64) (w : World) (hL0 : 0 < L) (hL : L <= 1024) (hbx : CS w d 78 [.slice (some ⟨g, 0, none⟩) L L, v1, v2, v3]) (hown : ∀ b, own b -> b < w.heap.size) (hj : j + n <= 8 * L) (hn0 : 0 < n) (hx : Ws w A n xs)
    (hS : ∀ W0, η w W0 -> Stp d own j ((j + n - 1) / 8 - j / 8 + 1) xs W0 (I W0) (J W0)) :
    Calls prog 139 #[Az d, .int .i64 ((8 * j : Nat) : Int), .slice A n c] w λe w' => ∃ W0, η w W0 /\ ∃ c : Int, e = .returned (.int .i64 c) /\ ((c = 0 /\ I W0 (n + ((j + n - 1) / 8 - j / 8 + 1) + 1) w') \/ (c = 12 /\ J W0 w')) := by
  have Z8 := Aa (λb (h1 : w.heap.size <= b) (h2 : own b) => Am2 _ (BQ (hown b h2) h1))
  have HW := Aa (fM d L g (8 * j) n _ _ _ w O hL hbx O O)
  have hlen := hx.len
  have HX := Aa hx
  obtain ⟨m, hmm, hm0, hm1, hm2⟩ : ∃ m, m = (j + n - 1) / 8 - j / 8 + 1 /\ 0 < m /\ (∀ i, j <= i -> i < j + n -> j / 8 <= i / 8 /\ i / 8 < j / 8 + m) /\ (∀ t, t < m <-> 8 * (j / 8 + t) < j + n) := ⟨(j + n - 1) / 8 - j / 8 + 1, rfl, O, λi h1 h2 => O, λt => O⟩
  have t9 : decide ((0 : Int) < (n : Int)) = true := decide_eq_true O
  rw [<- hmm] at hS ⊢
  have H := Aa hS
  clear hmm hS
  have zY := Aa hm1
  have Vx := Aa hm2
  clear hbx hx hm1 hm2 hown
  go_enter func139, ntmps139
  go_wp2_with fail
  refine HW.out.mono ?_
  rintro e w' ⟨rfl, rfl⟩
  clear HW
  go_wp2_with fail
  have hB0 : η w (w.alloc (.cells #[] 249)) := (Below.refl _ _).alloc (Ad _) _
  have hO0 : (w.alloc (.cells #[] 249)).ownsRow w.heap.size 249 1 (.slice (some ⟨w.heap.size, 0, none⟩) 0 0) 0 [] := World.ownsRow_made w #[] 0 (Ad _) U rfl
  go_loopw [8, 24] (λv i wr => ∃ k S, k <= n /\ i = .int .i64 (k : Nat) /\ wr.ownsRow w.heap.size 249 1 v k S /\ (∀ t v x, S[t]? = some v -> xs[t]? = some x -> Vw wr w.heap.size d v (j + t) x) /\ η w wr) (λ_ i _ => n - (intOf i).toNat)
  case atStart => exact ⟨0, [], BU _, rfl, hO0, by simp, hB0⟩
  case round =>
    obtain ⟨k, S, hk, rfl, hO, hS, hB⟩ := hrel
    clear hO0 hB0
    by_cases hlt : k < n
    · obtain ⟨hkl, b0, o0, rfl, hb0, hc0⟩ := (HX.out.below hB).at hlt
      go_wp2_with fail
      rw [show (8 * (j : Int) + 8 * (k : Int)) = ((8 * (j + k) : Nat) : Int) by omega]
      refine (dH w.heap.size d (j + k) xs[k] wr hB.size).mono ?_
      rintro e w2 ⟨v2, rfl, hs2, h1, hB2⟩
      obtain ⟨F, cap, rfl⟩ : ∃ F cap, v2 = .func F #[] cap := by obtain ⟨_, _, _, e, _⟩ := hs2; exact ⟨_, _, e⟩
      have hO2 := own_below hO hB2
      have hb2 : η w w2 := τ hB hB2
      have hS2 : ∀ t v x, S[t]? = some v -> xs[t]? = some x -> Vw w2 w.heap.size d v (j + t) x := λt v x h1 h2 => (hS t v x h1 h2).stays (QM.below hB2)
      have HS2 := Aa hS2
      have hSl : S.length = k := by simpa using hO.1
      clear hS hB hO hB2 hS2
      go_wp2_with (at_builtin; go_loud (refine IG rfl (.tmp 29) (.tmp 37) 284 rfl Tryz.jP w2 w.heap.size u8 k S [.func F #[] cap] rfl hO2 rfl rfl rfl rfl 1 1 rfl rfl (by simpa using h1) (by simp; omega) U hb2.size ?_); intro v3 w3 hO3 hB3 hK3)
      have hst := QM.kept hO2 hK3
      go_roundw
      case rel =>
        refine ⟨k + 1, S ++ [.func F #[] cap], O, by go_num, hO3, λt v x h1 h2 => ?_, hb2.trans hB3⟩
        by_cases e : t < S.length
        · rw [DI e] at h1
          exact (HS2.out t v x h1 h2).stays hst
        · have ht : t = k := by
            have := (List.getElem?_eq_some_iff.1 h1).1
            simp at this; omega
          subst ht
          rw [DZ O, hSl, Xq] at h1
          rw [Af hkl] at h2
          simp at h1 h2
          subst h1 h2
          exact hs2.stays hst
      case measure => simp [intOf]; omega
    · have hkn : k = n := O
      subst hkn
      have HS := Aa hS
      have hSl : S.length = k := by simpa using hO.1
      clear hS
      go_wp2_with fail
      rw [show (8 * (j : Int) / 64 * 64) = ((64 * (j / 8 + 0) : Nat) : Int) by omega]
      go_loopw [8, 12] (λv i w5 => ∃ t T, t <= m /\ i = .int .i64 ((64 * (j / 8 + t) : Nat) : Int) /\ w5.ownsRow w.heap.size 249 1 v (k + t) T /\ (∀ a v x, a < k -> T[a]? = some v -> xs[a]? = some x -> Vw w5 w.heap.size d v (j + a) x) /\ (∀ a v, a < t -> T[k + a]? = some v -> Z9 w5 w.heap.size d v (64 * (j / 8 + a))) /\ η w w5) (λ_ i _ => 8 * (j + k) + 64 - (intOf i).toNat)
      case atStart => exact ⟨0, S, BU _, rfl, hO, λa v x _ h1 h2 => HS.out a v x h1 h2, λa v h => absurd h O, hB⟩
      case round =>
        obtain ⟨t, T, htm, rfl, hO5, hT1, hT2, pq⟩ := hrel
        clear hO hB HS hSl
        have hTl : T.length = k + t := by simpa using hO5.1
        have hkt : k + t <= 20000 := by
          have := Vx.out (t - 1)
          omega
        by_cases hlt2 : t < m
        · have h8 := (Vx.out t).1 hlt2
          have t1 : decide (((64 * (j / 8 + t) : Nat) : Int) < 8 * (j : Int) + 8 * (k : Int)) = true := decide_eq_true O
          generalize hat : 64 * (j / 8 + t) = at_ at *
          have HT1 := Aa hT1
          have HT2 := Aa hT2
          clear hT1 hT2
          go_wp2_with fail
          refine (dI w.heap.size d at_ wr pq.size).mono ?_
          rintro e w2 ⟨v2, rfl, hs2, h1, hB2⟩
          obtain ⟨F, cap, rfl⟩ : ∃ F cap, v2 = .func F #[] cap := by obtain ⟨_, _, e, _⟩ := hs2; exact ⟨_, _, e⟩
          have hO2 := own_below hO5 hB2
          have hb2 : η w w2 := τ pq hB2
          have HT3 : Hid (∀ a v x, a < k -> T[a]? = some v -> xs[a]? = some x -> Vw w2 w.heap.size d v (j + a) x) := Aa (λa v x h0 h1 h2 => (HT1.out a v x h0 h1 h2).stays (QM.below hB2))
          have HT4 : Hid (∀ a v, a < t -> T[k + a]? = some v -> Z9 w2 w.heap.size d v (64 * (j / 8 + a))) := Aa (λa v h0 h1 => (HT2.out a v h0 h1).stays (QM.below hB2))
          clear hO5 hB2 HT1 HT2
          go_wp2_with (at_builtin; go_loud (refine IG rfl (.tmp 56) (.tmp 60) 284 rfl Tryz.jP w2 w.heap.size u8 (k + t) T [.func F #[] cap] rfl hO2 rfl rfl rfl rfl 1 1 rfl rfl (by simpa using h1) (by simp; omega) U hb2.size ?_); intro v3 w3 hO3 hB3 hK3)
          have hst := QM.kept hO2 hK3
          refine ⟨⟨_, _, _, _, _, _, _, _, _, _, _, _, _, ?_, rfl⟩, ?_⟩
          · refine ⟨t + 1, T ++ [.func F #[] cap], O, by rw [<- hat]; go_num, by rw [<- Nat.add_assoc]; exact hO3, λa v x h0 h1 h2 => ?_, λa v h0 h1 => ?_, hb2.trans hB3⟩
            · rw [DI O] at h1
              exact (HT3.out a v x h0 h1 h2).stays hst
            · by_cases e : a = t
              · subst e
                rw [DZ O, hTl, Xq] at h1
                simp at h1
                subst h1
                rw [hat]
                exact hs2.stays hst
              · rw [DI O] at h1
                exact (HT4.out a v O h1).stays hst
          · simp [intOf]; omega
        · have Auv : t = m := O
          subst Auv
          have h8 : ¬ 8 * (j / 8 + t) < j + k := λh => hlt2 ((Vx.out t).2 h)
          have t1 : decide (((64 * (j / 8 + t) : Nat) : Int) < 8 * (j : Int) + 8 * (k : Int)) = false := decide_eq_false O
          have HT1 := Aa hT1
          have HT2 := Aa hT2
          clear hT1 hT2
          go_wp2_with (at_builtin; go_loud (refine IG rfl (.tmp 62) (.tmp 65) 284 rfl Tryz.jP wr w.heap.size u8 (k + t) T [.func (.func 147) #[Az d] #[]] rfl hO5 rfl rfl rfl rfl 1 1 rfl rfl (by intro u hu; simp at hu; subst hu; rfl) (by simp; omega) U pq.size ?_); intro v3 w3 hO3 hB3 hK3)
          have hst := QM.kept hO5 hK3
          obtain ⟨A4, c4, rfl, hc4, hr4⟩ := CU hO3
          obtain ⟨g4, rfl, hg4, _⟩ := KL hO3 O
          have hb3 := pq.trans hB3
          subst hlen
          refine (wM d j t xs w w3 Z8.out (H.out _ hb3) O (T ++ [.func (.func 147) #[Az d] #[]])
            (λa v x h0 h1 h2 => ?_) (λa v h0 h1 => ?_) ?_ (by simp; omega) (some ⟨g4, 0, none⟩) c4 hr4 (λa ha => by injection ha with ha; subst ha; exact hg4)).mono ?_
          · rw [DI O] at h1
            exact (HT1.out a v x h0 h1 h2).stays hst
          · rw [DI O] at h1
            exact (HT2.out a v h0 h1).stays hst
          · rw [DZ O, hTl, Xq]; rfl
          rintro e w' ⟨c5, rfl, hp⟩
          have HP := Aa (⟨_, hb3, c5, rfl, hp⟩ : ∃ W0, η w W0 /\ ∃ c : Int, Ending.returned (.int .i64 c5) = .returned (.int .i64 c) /\ ((c = 0 /\ I W0 (xs.length + t + 1) w') \/ (c = 12 /\ J W0 w')))
          clear hp hb3 H Z8
          go_wp2_with fail
          go_ret
          exact HP.out
def RF(lf:Int)(d L g:Nat)(hb:Nat->Option Nat)(ws:Nat->UInt64)(j n c:Nat)(A:Option Addr)(xs:List UInt64)(w:World)(hL0:0<L)(hL:L<=1024)(h:BK w d L ws (MU lf) (λ_=>0) g hb)(hj:j+n<=8*L)(hn0:0<n)(hx:Ws w A n xs):
 Calls prog 139 #[Az d,.int .i64 ((8*j:Nat):Int),.slice A n c] w λe w'=>∃c:Int,e= .returned (.int .i64 c)/\Wrote lf (n+((j+n-1)/8-j/8+1)+1) w d L g hb ws j xs c w':=by
 obtain⟨st,hbx⟩:=h.box;have hlen:=hx.len;refine(ZB d L g _ _ _ j n c A xs w hL0 hL hbx h.lt hj hn0 hx (λW0 hB=>zW hL0 hL (h.below hB) O O O O (λi h1 h2=>O) (λt ht=>O))).mono ?_;rintro e w'⟨W0,hB,c,rfl,hi⟩;refine⟨c,rfl,Wrote.back (W0:=W0) ?_ hB⟩;rw [hlen]at hi;rcases hi with⟨h1,hi⟩| ⟨h1,hi⟩
 ·refine .inl ⟨h1,hi.1,?_⟩;have:=hi.2;rw [hlen,if_neg O,if_neg O]at this;exact this
 ·exact .inr ⟨h1,hi⟩
def pz(d L g j n c:Nat)(A:Option Addr)(xs:List UInt64)(v2 v3:Value)(w:World)(hL0:0<L)(hL:L<=1024)(hB:CS w d 78 [.slice (some (Φ g)) L L,.bool true,v2,v3])(hj:j+n<=8*L)(hn0:0<n)(hx:Ws w A n xs):
 Calls prog 139 #[Az d,.int .i64 ((8*j:Nat):Int),.slice A n c] w λe w'=>e= .returned (.int .i64 12)/\η w w':=by
 refine(ZB (own:=λ_=>False) d L g _ _ _ j n c A xs w hL0 hL hB (λ_ h=>h.elim) hj hn0 hx (λW0 hb=>oZ hL0 hL (hB.ξ hb) _ j _ xs)).mono ?_;rintro e w'⟨W0,hb,c,rfl,⟨_,h1,_⟩| ⟨rfl,rfl⟩⟩
 ·omega
 ·exact⟨rfl,hb⟩
def ZC(d L g:Nat)(hb:Nat->Option Nat)(ws:Nat->UInt64)(j n c:Nat)(A:Option Addr)(xs:List UInt64)(w:World)(hL0:0<L)(hL:L<=1024)(h:BK w d L ws M0 (λ_=>0) g hb)(hj:j+n<=8*L)(hn0:0<n)(hx:Ws w A n xs):
 Calls prog 139 #[Az d,.int .i64 ((8*j:Nat):Int),.slice A n c] w λe w'=>e= .returned (.int .i64 0)/\Dv w d L g hb (BO ws j xs) M0 (λ_=>0) w':=by
 refine(RF (-1) d L g hb ws j n c A xs w hL0 hL h hj hn0 hx).mono ?_;rintro e w'⟨c',rfl,hp⟩;obtain⟨rfl,hd⟩:=hp.up;exact⟨rfl,hd⟩
def RG(w:World)(b:Nat)(xs:List UInt64):Prop:=∃cur:Array Value,w.heap[b]? =some (.cells cur 28 (0,0))/\∀k(h:k<xs.length),cur[k]? =some (wv xs[k])
def RG.lt{w:World}{b:Nat}{xs:List UInt64}(h:RG w b xs):b<w.heap.size:=by
 obtain⟨cur,hc,_⟩:=h;exact(AB.1 hc).1
def RG.keep{w w':World}{b:Nat}{xs:List UInt64}(h:RG w b xs)(hk:w'.heap[b]? =w.heap[b]?):RG w' b xs:=by
 obtain⟨cur,hc,h2⟩:=h;exact⟨cur,hk.trans hc,h2⟩
def RG.cell{w:World}{b:Nat}{xs:List UInt64}(h:RG w b xs)(k:Nat)(hk:k<xs.length):w.cell? (Δ b k)=some (.int .u64 (xs[k].toNat:Int)):=by
 obtain⟨cur,hc,h2⟩:=h;rw [cell_of_row w b k cur _ (0,0) hc,h2 k hk];rfl
def RG.frozen{w:World}{b:Nat}{xs:List UInt64}(h:RG w b xs)(k:Nat):w.frozen? (Δ b k)=false:=by
 obtain⟨cur,hc,h2⟩:=h;simp [GL,hc]
def RG.set{w:World}{b:Nat}{xs:List UInt64}(h:RG w b xs)(k:Nat)(x:UInt64):RG (w.setCell (Δ b k) (wv x)) b (xs.set k x):=by
 obtain⟨cur,hc,h2⟩:=h;refine⟨_,MK _ hc,λt ht=> ?_⟩;rw [List.length_set]at ht;rw [Array.getElem?_setIfInBounds,KG];by_cases e:k=t
 ·subst e;have:k<cur.size:=(AB.1 (h2 k ht)).1;rw [if_pos rfl,if_pos rfl,if_pos this]
 ·rw [if_neg e,if_neg e];exact h2 t ht
def RG.JU{w:World}{base b n c:Nat}{xs:List UInt64}(h:w.ownsRow base 28 1 (.slice (some (Φ b)) n c) n (xs.map wv)):RG w b xs:=by
 obtain⟨h1,h2⟩:=h;rcases h2 with⟨h2,_⟩| ⟨g',cap,cur,hv,hB,hg,hnc,hcm,hcs,ht⟩
 ·cases h2
 ·simp only [Value.slice.injEq,Option.some.injEq,Addr.mk.injEq,and_true,true_and]at hv;obtain⟨rfl,rfl⟩:=hv;refine⟨cur,hg,λk hk=> ?_⟩;have hkn:k<n:=by simpa using(by simpa using h1:xs.length=n)▸hk
  have e:=congrArg (λl=>l[k]?) ht;simp only [CW,BZ,Af hk,DT]at e;rw [if_pos O]at e;rw [<-Array.getElem?_toList];exact e
structure AP(F F':Nat->Prop)(w w':World):Prop where
 touch:Touch F w w'
 own:∀b,F' b->F b\/w.heap.size<=b
def AP.refl(F:Nat->Prop)(w:World):AP F F w w:=⟨Touch.refl _ _,λ_ h=> .inl h⟩
def AP.of_below{F:Nat->Prop}{w w':World}(h:η w w'):AP F F w w':=⟨Touch.of_below h,λ_ h=> .inl h⟩
def AP.trans{F F' F'':Nat->Prop}{w w' w'':World}(h:AP F F' w w')(k:AP F' F'' w' w''):AP F F'' w w'':=
 ⟨h.touch.trans k.touch (λb hb=>h.own b hb),λb hb=>(k.own b hb).elim (λh1=>h.own b h1) (λh1=> .inr (Bc h.touch.size h1))⟩
def AP.below{F F':Nat->Prop}{w w' w'':World}(h:AP F F' w w')(k:η w' w''):AP F F' w w'':=h.trans (AP.of_below k)
def AP.set{F F':Nat->Prop}{w w':World}(h:AP F F' w w'){p:Addr}(hp:F p.block\/w.heap.size<=p.block)(u:Value):AP F F' w (w'.setCell p u):=⟨h.touch.setCell hp u,h.own⟩
structure Tabs(w:World):Prop where
 fours:∀j,j<16->w.cell? (Δ 0 j)=some (.int .u32 (Lm.getD j 0:Nat))
 jQ:∀j,j<64->w.cell? (Δ 1 j)=some (.int .u8 (Lib.deBruijn64tab.getD j 0:Nat))
def Tabs.keep{w w':World}(h:Tabs w)(h1:w'.heap[0]? =w.heap[0]?)(h2:w'.heap[1]? =w.heap[1]?):Tabs w':=
 ⟨λj hj=>(BA (w:=w) h1).trans (h.fours j hj),λj hj=>(BA (w:=w) h2).trans (h.jQ j hj)⟩
def Tabs.lt{w:World}(h:Tabs w):0<w.heap.size/\1<w.heap.size:=
 ⟨D6 w _ (h.fours 0 U),D6 w _ (h.jQ 0 U)⟩
def Tabs.below{w w':World}(h:Tabs w)(k:η w w'):Tabs w':=h.keep (k.block _ h.lt.1) (k.block _ h.lt.2)
inductive DY where
 | up(m:Mode)
 | down(P:(Nat->UInt64)->Prop)
instance:Coe Mode DY:=⟨.up⟩
def Vy(w:World)(d L:Nat)(P:(Nat->UInt64)->Prop)(own:Nat->Prop):Prop:=
 ∃(m:Mode)(ws:Nat->UInt64)(mark:Nat->Nat),m.lf=0/\Dev w d L ws m mark own/\(∀i,m i<=1000000)/\(∀i,∀c∈m.Nk i,∃t,t<8/\c.1=8*t)/\∀pick:Nat->Nat,(∀i,pick i<=m i)->P (O7 m pick ws)
def Us(w:World)(d L:Nat)(ws:Nat->UInt64)(m:DY)(own:Nat->Prop):Prop:=match m with
 | .up m=>Dev w d L ws m (λ_=>0) own/\m.lf≠0
 | .down P=>Vy w d L P own
def Us.rep{w:World}{d L:Nat}{ws:Nat->UInt64}{m:DY}{own:Nat->Prop}(h:Us w d L ws m own):∃ws' m' mark,Dev w d L ws' m' mark own:=by
 cases m with
 | up m=>exact⟨_,_,_,h.1⟩
 | down P=>obtain⟨_,_,_,_,h,_⟩:=h;exact⟨_,_,_,h⟩
def Us.lt{w:World}{d L:Nat}{ws:Nat->UInt64}{m:DY}{own:Nat->Prop}(h:Us w d L ws m own):∀b,own b->b<w.heap.size:=by
 obtain⟨_,_,_,h⟩:=h.rep;exact h.lt
def Us.touch{w w':World}{d L:Nat}{ws:Nat->UInt64}{m:DY}{own F:Nat->Prop}(h:Us w d L ws m own)(t:Touch F w w')(hF:∀b,own b->¬F b):Us w' d L ws m own:=by
 cases m with
 | up m=>exact⟨h.1.touch t hF,h.2⟩
 | down P=>obtain⟨m,ws,mark,h1,h2,h3⟩:=h;exact⟨m,ws,mark,h1,h2.touch t hF,h3⟩
def Us.below{w w':World}{d L:Nat}{ws:Nat->UInt64}{m:DY}{own:Nat->Prop}(h:Us w d L ws m own)(k:η w w'):Us w' d L ws m own:=h.touch (Touch.of_below (F:=λ_=>False) k) (λ_ _=>id)
def Us.box{w:World}{d L:Nat}{ws:Nat->UInt64}{m:DY}{own:Nat->Prop}(h:Us w d L ws m own):∃g v1 v2 v3,CS w d 78 [.slice (some (Φ g)) L L,v1,v2,v3]:=by
 obtain⟨_,_,_,g,hb,hr,_⟩:=h.rep;obtain⟨st,hbx⟩:=hr.box;exact⟨g,_,_,_,hbx⟩
def Us.size{w:World}{d L:Nat}{ws:Nat->UInt64}{m:DY}{own:Nat->Prop}(h:Us w d L ws m own)(hL:L<=1024):Calls prog 32 #[Az d] w λe w'=>e= .returned (.int .i64 ((L*64:Nat):Int))/\w=w':=by
 obtain⟨g,_,_,_,hbx⟩:=h.box;exact NW d L g _ _ _ w hL hbx
structure E5(len:DY)(w:World)(d p L:Nat)(s:St)(tb hb n cT cH:Nat)(own:Nat->Prop):Prop where
 dev:Us w d L s.ws len own
 L0:0<L
 L1:L<=1024
 shape:shapeOf L=some s.sh
 box:CS w p 127 [Az d,.int .i64 (s.sh.lines:Nat),.int .i64 (s.sh.BM:Nat),.int .i64 (s.sh.table:Nat),.int .i64 (s.sh.data:Nat),.slice (some (Φ tb)) n cT,.slice (some (Φ hb)) n cH]
 tk:RG w tb s.tk
 hd:RG w hb s.hd
 Oq:s.tk.length=n
 mX:s.hd.length=n
 bZ:n=s.sh.BM
 cT:n<=cT
 cH:n<=cH
 dp:¬own p
 dt:¬own tb
 dh:¬own hb
 pt:p≠tb
 ph:p≠hb
 th:tb≠hb
 tabs:Tabs w
 g1:¬(own 0\/0=p\/0=tb\/0=hb)
 g2:¬(own 1\/1=p\/1=tb\/1=hb)
def Ew(len:DY)(w:World)(d p L:Nat)(s:St)(F:Nat->Prop):Prop:=
 ∃tb hb n cT cH own,E5 len w d p L s tb hb n cT cH own/\∀b,F b<->(own b\/b=p\/b=tb\/b=hb)
abbrev Sys:=Ew (.up M0)
section
variable{w w':World}{d p L:Nat}{s:St}{F:Nat->Prop}
def Ew.lt{len:DY}(h:Ew len w d p L s F):∀b,F b->b<w.heap.size:=by
 obtain⟨tb,hb,n,cT,cH,own,h,hF⟩:=h;intro b hb';rcases(hF b).1 hb' with h1| rfl| rfl| rfl
 ·exact h.dev.lt b h1
 ·exact h.box.lt
 ·exact h.tk.lt
 ·exact h.hd.lt
def Ew.tabs{len:DY}(h:Ew len w d p L s F):Tabs w:=by
 obtain⟨tb,hb,n,cT,cH,own,h,hF⟩:=h;exact h.tabs
def Ew.keep{len:DY}(h:Ew len w d p L s F){G:Nat->Prop}(t:Touch G w w')(hG:∀b,F b->¬G b)(g1:¬G 0)(g2:¬G 1):Ew len w' d p L s F:=by
 have hlt:=h.lt;obtain⟨tb,hb,n,cT,cH,own,h,hF⟩:=h;have keep:∀b,F b->w'.heap[b]? =w.heap[b]? :=λb hb'=>t.block b (hlt b hb') (hG b hb')
 refine⟨tb,hb,n,cT,cH,own,⟨h.dev.touch t (λb hb'=>hG b ((hF b).2 (.inl hb'))),h.L0,h.L1,h.shape,(keep p ((hF p).2 (.inr (.inl rfl)))).trans h.box,h.tk.keep (keep tb ((hF tb).2 (.inr (.inr (.inl rfl))))),h.hd.keep (keep hb ((hF hb).2 (.inr (.inr (.inr rfl))))),h.Oq,h.mX,h.bZ,h.cT,h.cH,h.dp,h.dt,h.dh,h.pt,h.ph,h.th,
  h.tabs.keep (t.block _ h.tabs.lt.1 g1) (t.block _ h.tabs.lt.2 g2),h.g1,h.g2⟩,hF⟩
def Ew.below{len:DY}(h:Ew len w d p L s F)(k:η w w'):Ew len w' d p L s F:=
 h.keep (Touch.of_below (F:=λ_=>False) k) (λ_ _=>id) id id
end
def ZE(L:Nat):∀f s,NR s<=L\/s=0->NR (JL L f s)<=L\/JL L f s=0
 | 0,s,h=>h
 | f+1,s,h=>by
   unfold JL;split
   ·rename_i h1;exact ZE L f (s+1) (.inl h1)
   ·exact h
structure dJ(L:Nat)(sh:Sh):Prop where
 BM:0<sh.BM
 lines:sh.lines=L
 table:sh.table=128
 data:sh.data=64*JO sh.BM
 fits:sh.data+1024*sh.BM<=64*L
 Le:128+8*sh.BM<=sh.data
def FK{L:Nat}{sh:Sh}(h:shapeOf L=some sh):dJ L sh:=by
 unfold shapeOf at h;split at h
 ·cases h
 ·dsimp only at h
  split at h
  ·cases h
  ·rename_i h1 h2;injection h with h
   have:=(ZE L L 0 (.inr rfl)).resolve_right h2;subst h;unfold NR JO at this;refine⟨Nat.pos_of_ne_zero h2,rfl,rfl,by simp [Nat.mul_comm],?_,?_⟩
   ·show(2+(Qa L+7)/8)*64+1024*Qa L<=64*L;unfold Qa;omega
   ·show 128+8*Qa L<=(2+(Qa L+7)/8)*64;omega
section
variable{w w':World}{d p L:Nat}{s:St}{F:Nat->Prop}
def E5.wrote{m:DY}{m':Mode}{tb hb n cT cH g:Nat}{own:Nat->Prop}{hb0:Nat->Option Nat}{ws':Nat->UInt64}(h:E5 m w d p L s tb hb n cT cH own)(hF:∀b,F b<->(own b\/b=p\/b=tb\/b=hb))(ho:∀b,own b<->Dh d L g hb0 b)
 (hd:Dv w d L g hb0 ws' m' (λ_=>0) w')(hu:m'.lf≠0):∃F',Ew m' w' d p L {s with ws:=ws'} F'/\AP F F' w w':=by
 obtain⟨hb1,ho1,hr1,ht⟩:=hd;have out:∀b,b<w.heap.size->¬own b->¬Dh d L g hb1 b:=λb hlt hn h1=>(ho1 b h1).elim (λh2=>hn ((ho b).2 h2)) (λh2=>O)
 have keep:∀b,b<w.heap.size->¬own b->w'.heap[b]? =w.heap[b]? :=λb hlt hn=>ht.block b hlt (λh2=>hn ((ho b).2 h2))
 have hg1:¬own 0:=λh1=>h.g1 (.inl h1)
 have hg2:¬own 1:=λh1=>h.g2 (.inl h1)
 refine⟨λb=>Dh d L g hb1 b\/b=p\/b=tb\/b=hb,⟨tb,hb,n,cT,cH,Dh d L g hb1,⟨⟨⟨g,hb1,hr1,λ_=>Iff.rfl⟩,hu⟩,h.L0,h.L1,h.shape,(keep p h.box.lt h.dp).trans h.box,h.tk.keep (keep tb h.tk.lt h.dt),h.hd.keep (keep hb h.hd.lt h.dh),h.Oq,h.mX,h.bZ,h.cT,h.cH,
  out p h.box.lt h.dp,out tb h.tk.lt h.dt,out hb h.hd.lt h.dh,h.pt,h.ph,h.th,h.tabs.keep (keep _ h.tabs.lt.1 hg1) (keep _ h.tabs.lt.2 hg2),
  λh1=>h1.elim (out _ h.tabs.lt.1 hg1) (λh2=>h.g1 (.inr h2)),λh1=>h1.elim (out _ h.tabs.lt.2 hg2) (λh2=>h.g2 (.inr h2))⟩,λ_=>Iff.rfl⟩,⟨ht.mono (λb hb'=>(hF b).2 (.inl ((ho b).2 hb'))),λb hb'=> ?_⟩⟩
 rcases hb' with h1| h1
 ·exact(ho1 b h1).imp (λh2=>(hF b).2 (.inl ((ho b).2 h2))) id
 ·exact .inl ((hF b).2 (.inr h1))
def E5.cut{m:DY}{m':Mode}{mark:Nat->Nat}{P:(Nat->UInt64)->Prop}{tb hb n cT cH g:Nat}{own:Nat->Prop}{hb0:Nat->Option Nat}{ws':Nat->UInt64}(h:E5 m w d p L s tb hb n cT cH own)(hF:∀b,F b<->(own b\/b=p\/b=tb\/b=hb))(ho:∀b,own b<->Dh d L g hb0 b)
 (hd:Dv w d L g hb0 ws' m' mark w')(hu:m'.lf=0)(hm:∀i,m' i<=1000000)(hc:∀i,∀c∈m'.Nk i,∃t,t<8/\c.1=8*t)(hP:∀pick:Nat->Nat,(∀i,pick i<=m' i)->P (O7 m' pick ws'))(ws2:Nat->UInt64):∃F',Ew (.down P) w' d p L {s with ws:=ws2} F'/\AP F F' w w':=by
 obtain⟨hb1,ho1,hr1,ht⟩:=hd;have out:∀b,b<w.heap.size->¬own b->¬Dh d L g hb1 b:=λb hlt hn h1=>(ho1 b h1).elim (λh2=>hn ((ho b).2 h2)) (λh2=>O)
 have keep:∀b,b<w.heap.size->¬own b->w'.heap[b]? =w.heap[b]? :=λb hlt hn=>ht.block b hlt (λh2=>hn ((ho b).2 h2))
 have hg1:¬own 0:=λh1=>h.g1 (.inl h1)
 have hg2:¬own 1:=λh1=>h.g2 (.inl h1)
 refine⟨λb=>Dh d L g hb1 b\/b=p\/b=tb\/b=hb,⟨tb,hb,n,cT,cH,Dh d L g hb1,⟨⟨m',ws',mark,hu,⟨g,hb1,hr1,λ_=>Iff.rfl⟩,hm,hc,hP⟩,h.L0,h.L1,h.shape,(keep p h.box.lt h.dp).trans h.box,h.tk.keep (keep tb h.tk.lt h.dt),h.hd.keep (keep hb h.hd.lt h.dh),h.Oq,h.mX,h.bZ,h.cT,h.cH,
  out p h.box.lt h.dp,out tb h.tk.lt h.dt,out hb h.hd.lt h.dh,h.pt,h.ph,h.th,h.tabs.keep (keep _ h.tabs.lt.1 hg1) (keep _ h.tabs.lt.2 hg2),
  λh1=>h1.elim (out _ h.tabs.lt.1 hg1) (λh2=>h.g1 (.inr h2)),λh1=>h1.elim (out _ h.tabs.lt.2 hg2) (λh2=>h.g2 (.inr h2))⟩,λ_=>Iff.rfl⟩,⟨ht.mono (λb hb'=>(hF b).2 (.inl ((ho b).2 hb'))),λb hb'=> ?_⟩⟩
 rcases hb' with h1| h1
 ·exact(ho1 b h1).imp (λh2=>(hF b).2 (.inl ((ho b).2 h2))) id
 ·exact .inl ((hF b).2 (.inr h1))
def Ajv(h:Sys w d p L s F)(j:Nat)(x:UInt64)(hj:j<8*L):
 Calls prog 95 #[Az d,.int .i64 ((8*j:Nat):Int),.int .u64 (x.toNat:Int)] w λe w'=>e= .returned (.int .i64 0)/\
  ∃F',Sys w' d p L {s with ws:=FN s.ws j x} F'/\AP F F' w w':=by
 obtain⟨tb,hb,n,cT,cH,own,h,hF⟩:=h;obtain⟨⟨g,hb0,hr,ho⟩,hu⟩:=h.dev;refine(Aju d L g hb0 s.ws j x w h.L0 h.L1 hr hj).mono ?_;rintro e w'⟨rfl,hd⟩;exact⟨rfl,h.wrote hF ho hd U⟩
def wO(h:Sys w d p L s F)(j n c:Nat)(A:Option Addr)(xs:List UInt64)(hj:j+n<=8*L)(hn0:0<n)(hx:Ws w A n xs):
 Calls prog 139 #[Az d,.int .i64 ((8*j:Nat):Int),.slice A n c] w λe w'=>e= .returned (.int .i64 0)/\
  ∃F',Sys w' d p L {s with ws:=BO s.ws j xs} F'/\AP F F' w w':=by
 obtain⟨tb,hb,n',cT,cH,own,h,hF⟩:=h;obtain⟨⟨g,hb0,hr,ho⟩,hu⟩:=h.dev;refine(ZC d L g hb0 s.ws j n c A xs w h.L0 h.L1 hr hj hn0 hx).mono ?_;rintro e w'⟨rfl,hd⟩;exact⟨rfl,h.wrote hF ho hd U⟩
def jR{len:Mode}(h:Ew len w d p L s F)(j n:Nat)(hj:j+n<=8*L):
 Calls prog 33 #[Az d,.int .i64 ((8*j:Nat):Int),.int .i64 (n:Int)] w λe w'=>∃v,e= .returned (.tuple #[v,.int .i64 0])/\
  w'.ownsRow w.heap.size 28 1 v n ((wordsAt s.ws j n).map wv)/\η w w':=by
 obtain⟨tb,hb,n',cT,cH,own,h,hF⟩:=h;obtain⟨⟨g,hb0,hr,ho⟩,hu⟩:=h.dev;exact Y7 d L s.ws _ _ g hb0 j n w h.L0 h.L1 hu hr hj
def pF{ws0 ws:Nat->UInt64}{i:Nat}(q:Nat):∀{l:List (Nat×UInt64)},(∀c∈l,c.2=ws0 (8*i+c.1/8))->Jh i l ws q=ws q\/Jh i l ws q=ws0 q
 | [],_=> .inl rfl
 | c::l,h=>by
   unfold Jh;by_cases e:q=8*i+c.1/8
   ·right;rw [if_pos e,h c (Bh ..),<-e]
   ·rw [if_neg e];exact pF q (λx hx=>h x (List.mem_cons_of_mem _ hx))
def Half(ws ws2 ws':Nat->UInt64):Prop:=∀q,ws' q=ws q\/ws' q=ws2 q
def ZF{ws Y5 ws2:Nat->UInt64}{j n:Nat}{m:Mode}(h:Z5 ws j n m)(h1:∀q,Y5 q=ws q\/Y5 q=ws2 q)(pick:Nat->Nat):Half ws ws2 (O7 m pick Y5):=λq=>by
 unfold O7;rcases pF (ws0:=ws) (ws:=Y5) (i:=q/8) q (l:=(m.Nk (q/8)).drop (pick (q/8))) (λc hc=>by
  obtain⟨t,t1,t2,t3,t4,t5⟩:=h (q/8) c (List.mem_of_mem_drop hc);rw [t5];congr 1;omega)with e| e
 ·rw [e];exact h1 q
 ·exact .inl e
def Af2(lf:Int)(ws ws2:Nat->UInt64)(c:Int)(m':DY):Prop:=
 (c=0/\∃lf':Int,m'= .up (MU lf')/\lf'≠0/\(lf<0->lf'=lf)/\(0<lf->0<lf'/\lf'<lf))\/(c=0/\0<lf/\m'= .down (λws'=>ws'=ws2))\/(c=12/\0<lf/\m'= .down (Half ws ws2))
def E5.out{lf:Int}{N:Nat}{tb hb n cT cH g:Nat}{own:Nat->Prop}{hb0:Nat->Option Nat}{j:Nat}{xs:List UInt64}{c:Int}(h:E5 (.up (MU lf)) w d p L s tb hb n cT cH own)(hN:0<N)(hF:∀b,F b<->(own b\/b=p\/b=tb\/b=hb))(ho:∀b,own b<->Dh d L g hb0 b)
 (hd:Wrote lf N w d L g hb0 s.ws j xs c w'):∃m' F',Ew m' w' d p L {s with ws:=BO s.ws j xs} F'/\AP F F' w w'/\Af2 lf s.ws (BO s.ws j xs) c m':=by
 have hlf:=h.dev.2;change lf≠0 at hlf;rcases hd with⟨h1,h2,h3⟩| ⟨h1,h2,h3,len,Y5,mark,h4,h5,h6,h7,h8⟩
 ·by_cases hz:Yo lf N=0
  ·obtain⟨F',hs,hm⟩:=h.cut (P:=λws'=>ws'=BO s.ws j xs) hF ho h3 hz (λ_=>BU _) (λ_ _ h=>nomatch h) (λpick _=>by funext q;unfold O7;rw [show((MU (Yo lf N)).Nk (q/8))=[]from rfl,List.drop_nil];rfl) (BO s.ws j xs);refine⟨_,F',hs,hm,.inr (.inl ⟨h1,?_,rfl⟩)⟩;unfold Yo at hz;split at hz<;>omega
  ·obtain⟨F',hs,hm⟩:=h.wrote hF ho h3 hz;refine⟨_,F',hs,hm,.inl ⟨h1,_,rfl,hz,λhl=> ?_,λhl=> ?_⟩⟩
   ·unfold Yo;rw [if_pos hl]
   ·unfold Yo at hz⊢;rw [if_neg O]at hz⊢;omega
 ·obtain⟨F',hs,hm⟩:=h.cut (P:=Half s.ws (BO s.ws j xs)) hF ho h8 h4 h5 (λi c hc=>by
  obtain⟨t,t1,t2,_⟩:=h6 i c hc;exact⟨t,t1,t2⟩) (λpick _=>ZF h6 h7 pick) (BO s.ws j xs)
  exact⟨_,F',hs,hm,.inr (.inr ⟨h1,O,rfl⟩)⟩
def pG{lf:Int}(h:Ew (.up (MU lf)) w d p L s F)(j n c:Nat)(A:Option Addr)(xs:List UInt64)(hj:j+n<=8*L)(hn0:0<n)(hx:Ws w A n xs):
 Calls prog 139 #[Az d,.int .i64 ((8*j:Nat):Int),.slice A n c] w λe w'=>∃c:Int,e= .returned (.int .i64 c)/\
  ∃m' F',Ew m' w' d p L {s with ws:=BO s.ws j xs} F'/\AP F F' w w'/\Af2 lf s.ws (BO s.ws j xs) c m'/\(0<lf->lf<=n+1->c=12):=by
 obtain⟨tb,hb,n',cT,cH,own,h,hF⟩:=h;obtain⟨⟨g,hb0,hr,ho⟩,hu⟩:=h.dev;refine(RF lf d L g hb0 s.ws j n c A xs w h.L0 h.L1 hr hj hn0 hx).mono ?_;rintro e w'⟨c,rfl,hd⟩;have hcut:0<lf->lf<=n+1->c=12:=λh1 h2=>by
  rcases hd with⟨_,h4,_⟩| ⟨h3,_⟩
  ·omega
  ·exact h3
 obtain⟨m',F',h1,h2,h3⟩:=h.out O hF ho hd;exact⟨c,rfl,m',F',h1,h2,h3,hcut⟩
end
def Dv.dev{w w':World}{d L g:Nat}{hb0:Nat->Option Nat}{own:Nat->Prop}{ws':Nat->UInt64}(ho:∀b,own b<->Dh d L g hb0 b)(hd:Dv w d L g hb0 ws' M0 (λ_=>0) w'):
 ∃own',Dev w' d L ws' M0 (λ_=>0) own'/\Touch own w w'/\∀b,own' b->own b\/w.heap.size<=b:=by
 obtain⟨hb1,ho1,hr1,ht⟩:=hd;exact⟨Dh d L g hb1,⟨g,hb1,hr1,λ_=>Iff.rfl⟩,ht.mono (λb hb=>(ho b).2 hb),λb hb=>(ho1 b hb).imp (ho b).2 id⟩
def ZG{w:World}{d L:Nat}{ws:Nat->UInt64}{own:Nat->Prop}(hL0:0<L)(hL:L<=1024)(h:Dev w d L ws M0 (λ_=>0) own)(j n c:Nat)(A:Option Addr)(xs:List UInt64)(hj:j+n<=8*L)(hn0:0<n)(hx:Ws w A n xs):
 Calls prog 139 #[Az d,.int .i64 ((8*j:Nat):Int),.slice A n c] w λe w'=>e= .returned (.int .i64 0)/\
  ∃own',Dev w' d L (BO ws j xs) M0 (λ_=>0) own'/\Touch own w w'/\∀b,own' b->own b\/w.heap.size<=b:=by
 obtain⟨g,hb0,hr,ho⟩:=h;refine(ZC d L g hb0 ws j n c A xs w hL0 hL hr hj hn0 hx).mono ?_;rintro e w'⟨rfl,hd⟩;exact⟨rfl,hd.dev ho⟩
def Acf{w:World}{d L:Nat}{ws:Nat->UInt64}{own:Nat->Prop}(hL0:0<L)(hL:L<=1024)(h:Dev w d L ws M0 (λ_=>0) own):
 Calls prog 138 #[Az d,.int .i64 0,.int .i64 (L:Int)] w λe w'=>e= .returned (.int .i64 0)/\
  ∃own',Dev w' d L (BO ws 0 (BC (8*L) 0)) M0 (λ_=>0) own'/\Touch own w w'/\∀b,own' b->own b\/w.heap.size<=b:=by
 obtain⟨i0,hi,hz0,hz1,hz2⟩:=info_parts Tryz.Jp.hi;have t1:decide ((L:Int)<0)=false:=by simp
 have t2:decide ((1024:Int)<(L:Int))=false:=decide_eq_false O;have H:=Aa h;clear h;go_enter func138,ntmps138
 go_wp2_with(at_make;rw [show(L:Int)*8=((8*L:Nat):Int)by omega];refine wpList_make_full _ rfl _ _ 91 rfl w.heap.size 28 i0 (.int .u64 0) 1 underlying91 hi hz0 hz1 .i64 .i64 _ _ (8*L) rfl rfl rfl rfl (by rw [hz2];omega) (by unfold maxLen;omega) (Ad _) ?_;intro w0 hown0 hgrow0)
 have hb0:η w w0:=(Below.refl _ _).grown hgrow0 (Ad _) Θ;obtain⟨g,hbb,hr,ho⟩:=H.out;have h0:Dev w0 d L ws M0 (λ_=>0) own:=⟨g,hbb,hr.below hb0,ho⟩;rw [Lj]at hown0;have HP:=ZG hL0 hL h0 0 (8*L) (8*L) (some (Φ w.heap.size)) (BC (8*L) 0) O O (CP hown0).2;rw [show((8*0:Nat):Int)=0 from rfl]at HP;refine HP.mono ?_;rintro e w'⟨rfl,own',hd,ht,ho'⟩
 go_wp2_with fail
 go_ret;refine⟨rfl,own',hd,(Touch.of_below hb0).trans ht (λb hb=> .inl hb),λb hb=>(ho' b hb).imp id (λh=>Bc hb0.size h)⟩
