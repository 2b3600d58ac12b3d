import Derived.Deep.Upon
import Derived.Lib.AppendZeros
import Derived.Test.YtkimaejoeapmnaaGreatDoorH06
set_option linter.defProp false
set_option maxHeartbeats 32000000
set_option maxRecDepth 100000
open Go.Lib renaming hid->Aa,wpList_append_run->FX,run_eql_slice_nil->Jl
open List renaming length_map->BJ,length_set->Di
open Array renaming size_setIfInBounds->Hy,getElem?_setIfInBounds->Be
open Go.World renaming heap_setCells_other->cZ,frozen?->GL
open Nat renaming le_refl->Ad
namespace Go.Proofs.YtkimaejoeapmnaaGreatDoor
open Go.RowKit
open Go.Proofs.Tryz
def CG{w:World}{g:Nat}{e:TypeId}{a b c d:Value}(h:CS w g e [a,b,c,d]):
 w.cell? (Φ g)=some a/\w.cell? (Δ g 1)=some b/\w.cell? (Δ g 2)=some c/\w.cell? (Δ g 3)=some d/\
 w.frozen? (Φ g)=false/\w.frozen? (Δ g 1)=false/\w.frozen? (Δ g 2)=false/\w.frozen? (Δ g 3)=false:=
 ⟨h.cell 0,h.cell 1,h.cell 2,h.cell 3,h.frozen 0,h.frozen 1,h.frozen 2,h.frozen 3⟩
def size_nil(w:World):Calls prog 32 #[.pointer none] w λe w'=>e= .returned (.int .i64 0)/\w=w':=by
 go_enter func32,ntmps32;go_wp2;go_ret;exact⟨rfl,rfl⟩
def NW(d L g:Nat)(v1 v2 v3:Value)(w:World)(hL:L<=1024)(h:CS w d 78 [.slice (some (Φ g)) L L,v1,v2,v3]):
 Calls prog 32 #[Az d] w λe w'=>e= .returned (.int .i64 ((L*64:Nat):Int))/\w=w':=by
 obtain⟨y0,y1,y2,y3,f0,f1,f2,f3⟩:=CG h;go_enter func32,ntmps32;go_wp2;go_ret;exact⟨by simp,rfl⟩
def wu(d L g off each:Nat)(v2 v3:Value)(w:World)(hL:L<=1024)(h:CS w d 78 [.slice (some (Φ g)) L L,.bool false,v2,v3])(ho:off<L*64)(he:0<each)(hm:off%each=0)(he2:each<=64):
 Calls prog 68 #[Az d,.int .i64 (off:Int),.int .i64 (each:Int)] w λe w'=>e= .returned (.int .i64 0)/\w=w':=by
 obtain⟨y0,y1,y2,y3,f0,f1,f2,f3⟩:=CG h;have hs:=NW d L g (.bool false) v2 v3 w hL h;have HS:=Aa hs;have t1:(((L*64:Nat):Int)==0)=false:=by rw [beq_eq_false_iff_ne];omega
 have t2:decide ((off:Int)<0)=false:=by simp
 have t3:decide (((L*64:Nat):Int)<=(off:Int))=false:=by simp;omega
 have t4:((off:Int)%(each:Int)!=0)=false:=by
  have:(off:Int)%(each:Int)=((off%each:Nat):Int):=by rw [Int.natCast_emod]
  rw [this,hm];rfl
 generalize hN:L*64=N at*;clear hs hN h;go_enter func68,ntmps68
 go_wp2_with fail
 refine HS.out.mono ?_;rintro e w'⟨rfl,rfl⟩
 go_wp2_with fail
 refine HS.out.mono ?_;rintro e w'⟨rfl,rfl⟩
 go_wp2_with fail
 go_ret;exact⟨rfl,rfl⟩
def Zt(d L g off each:Nat)(v2 v3:Value)(w:World)(hL0:0<L)(hL:L<=1024)(h:CS w d 78 [.slice (some (Φ g)) L L,.bool true,v2,v3]):
 Calls prog 68 #[Az d,.int .i64 (off:Int),.int .i64 (each:Int)] w λe w'=>e= .returned (.int .i64 12)/\w=w':=by
 obtain⟨y0,y1,y2,y3,f0,f1,f2,f3⟩:=CG h;have hs:=NW d L g (.bool true) v2 v3 w hL h;have HS:=Aa hs;have t1:(((L*64:Nat):Int)==0)=false:=by rw [beq_eq_false_iff_ne];omega
 generalize hN:L*64=N at*;clear hs hN h;go_enter func68,ntmps68
 go_wp2_with fail
 refine HS.out.mono ?_;rintro e w'⟨rfl,rfl⟩
 go_wp2_with fail
 go_ret;exact⟨rfl,rfl⟩
def Vp(d L:Nat)(ws:Nat->UInt64)(len:Mode)(mark:Nat->Nat)(g:Nat)(hb:Nat->Option Nat)(j:Nat)(w:World)(hL:L<=1024)(hu:len.lf≠0)(h:BK w d L ws len mark g hb)(hj:j<8*L):
 Calls prog 29 #[Az d,.int .i64 ((8*j:Nat):Int)] w λe w'=>e= .returned (.tuple #[.int .u64 ((ws j).toNat:Int),.int .i64 0])/\w=w':=by
 obtain⟨st,hbx⟩:=h.box;rw [decide_eq_false hu]at hbx;obtain⟨y0,y1,y2,y3,f0,f1,f2,f3⟩:=CG hbx;have ha:=wu d L g (8*j) 8 (.int .i64 len.lf) (.int .i64 st) w hL hbx O U O U;have HA:=Aa ha;have hl:=h.line (j/8) O;have hg:=oK (some (Δ g (66*(j/8)))) 64 64 (j%8) (EN ws (j/8)) w U hl (by rw [GZ];omega);rw [Jr,show 8*(j/8)+j%8=j by omega]at hg;have HG:=Aa hg;clear ha hl hg h hbx;go_enter func29,ntmps29
 go_wp2_with fail
 refine HA.out.mono ?_;rintro e w'⟨rfl,rfl⟩;clear HA
 go_wp2_with fail
 rw [show 8*j/64*66=66*(j/8)by omega,show 8*(j:Int)%64=((8*(j%8):Nat):Int)by omega];refine HG.out.mono ?_;rintro e w'⟨rfl,rfl⟩;clear HG
 go_wp2_with fail
 go_ret2;exact⟨rfl,rfl⟩
def Ab4(d L g off:Nat)(v2 v3:Value)(w:World)(hL0:0<L)(hL:L<=1024)(h:CS w d 78 [.slice (some (Φ g)) L L,.bool true,v2,v3]):
 Calls prog 29 #[Az d,.int .i64 (off:Int)] w λe w'=>e= .returned (.tuple #[.int .u64 0,.int .i64 12])/\w=w':=by
 have HA:=Aa (Zt d L g off 8 v2 v3 w hL0 hL h);obtain⟨y0,y1,y2,y3,f0,f1,f2,f3⟩:=CG h;clear h;go_enter func29,ntmps29
 go_wp2_with fail
 refine HA.out.mono ?_;rintro e w'⟨rfl,rfl⟩;clear HA
 go_wp2_with fail
 go_ret2;exact⟨rfl,rfl⟩
def Zu(d L g off:Nat)(x:Int)(v2 v3:Value)(w:World)(hL0:0<L)(hL:L<=1024)(h:CS w d 78 [.slice (some (Φ g)) L L,.bool true,v2,v3]):
 Calls prog 175 #[Az d,.int .i64 (off:Int),.int .u64 x] w λe w'=>e= .returned (.int .i64 12)/\w=w':=by
 have HA:=Aa (Ab4 d L g off v2 v3 w hL0 hL h);obtain⟨y0,y1,y2,y3,f0,f1,f2,f3⟩:=CG h;clear h;go_enter func175,ntmps175
 go_wp2_with fail
 refine HA.out.mono ?_;rintro e w'⟨rfl,rfl⟩;clear HA
 go_wp2_with fail
 go_ret;exact⟨rfl,rfl⟩
def Zv(d L g off:Nat)(v2 v3:Value)(w:World)(hL0:0<L)(hL:L<=1024)(h:CS w d 78 [.slice (some (Φ g)) L L,.bool true,v2,v3]):
 Calls prog 177 #[Az d,.int .i64 (off:Int)] w λe w'=>e= .returned (.int .i64 12)/\w=w':=by
 have HA:=Aa (Zt d L g off 1 v2 v3 w hL0 hL h);obtain⟨y0,y1,y2,y3,f0,f1,f2,f3⟩:=CG h;clear h;go_enter func177,ntmps177
 go_wp2_with fail
 refine HA.out.mono ?_;rintro e w'⟨rfl,rfl⟩;clear HA
 go_wp2_with fail
 go_ret;exact⟨rfl,rfl⟩
def Zw(d L g:Nat)(v2 v3:Value)(w:World)(hL0:0<L)(hL:L<=1024)(h:CS w d 78 [.slice (some (Φ g)) L L,.bool true,v2,v3]):
 Calls prog 147 #[Az d] w λe w'=>e= .returned (.int .i64 12)/\w=w':=by
 have HA:=Aa (Zt d L g 0 1 v2 v3 w hL0 hL h);obtain⟨y0,y1,y2,y3,f0,f1,f2,f3⟩:=CG h;clear h;go_enter func147,ntmps147
 go_wp2_with fail
 refine HA.out.mono ?_;rintro e w'⟨rfl,rfl⟩;clear HA
 go_wp2_with fail
 go_ret;exact⟨rfl,rfl⟩
def Vq(d g L:Nat)(lf st:Int)(w:World)(hl:lf≠0)(hr: -1<=lf/\lf<=1000000000)(h:CS w d 78 [.slice (some (Φ g)) L L,.bool false,.int .i64 lf,.int .i64 st]):
 Calls prog 179 #[Az d] w λe w'=>e= .returned (.tuple #[])/\Touch (λb=>b=d) w w'/\
  ∃st':Int,CS w' d 78 [.slice (some (Φ g)) L L,.bool (decide ((if 0<lf then lf-1 else lf)=0)),.int .i64 (if 0<lf then lf-1 else lf),.int .i64 st']:=by
 obtain⟨lf',hl'⟩:∃lf',lf'=(if 0<lf then lf-1 else lf):=⟨_,rfl⟩;rw [<-hl'];have HL:=Aa hl';have HN:=Aa hl;clear hl' hl;obtain⟨y0,y1,y2,y3,f0,f1,f2,f3⟩:=CG h;have T0:=Touch.refl (λb=>b=d) w;have H:=Aa h;clear h;by_cases hp:0<lf
 ·have t1:decide (0<lf)=true:=decide_eq_true hp;have b1:IntKind.i64.wrap (lf-1)=lf-1:=IntWalk.i64_in _ O;have KEY:Hid (∀v:Int,Touch (λb=>b=d) w (((w.setCell (Δ d 3) (.int .i64 v)).setCell (Δ d 2) (.int .i64 (lf-1))).setCell (Δ d 1) (.bool (lf-1==0)))/\∃st':Int,CS (((w.setCell (Δ d 3) (.int .i64 v)).setCell (Δ d 2) (.int .i64 (lf-1))).setCell (Δ d 1) (.bool (lf-1==0))) d 78 [.slice (some (Φ g)) L L,.bool (decide (lf-1=0)),.int .i64 (lf-1),.int .i64 st']):=
   Aa (λv=>⟨((T0.setCell (p:=Δ d 3) (.inl rfl) _).setCell (p:=Δ d 2) (.inl rfl) _).setCell (p:=Δ d 1) (.inl rfl) _,v,((H.out.AZ 3 (.int .i64 v)).AZ 2 (.int .i64 (lf-1))).AZ 1 (.bool (lf-1==0))⟩)
  go_enter func179,ntmps179;go_wp2;go_end0;have hl':=HL.out;rw [if_pos O]at hl';subst hl';exact⟨rfl,KEY.out _⟩
 ·have t1:decide (0<lf)=false:=decide_eq_false hp;go_enter func179,ntmps179;go_wp2;go_end0;have hl':=HL.out;rw [if_neg O]at hl';subst hl';rw [decide_eq_false HN.out];exact⟨rfl,T0.setCell (p:=Δ d 3) (.inl rfl) _,_,H.out.AZ 3 _⟩
def oP(g off k:Nat)(l:List UInt64)(x:UInt64)(w:World)(hl:l.length=8)(h:Bs w (some (Δ g off)) 64 (leBytes l))(hf:∀j,j<64->w.frozen? (Δ g (off+j))=false)(hk:k<8):
 Calls prog 107 #[.pointer (some (Δ g off)),.int .i64 ((8*k:Nat):Int),.int .u64 (x.toNat:Int)] w λe w'=>e= .returned (.tuple #[])/\∃w1,η w w1/\w'=w1.setCells g off ((leBytes (l.set k x)).map bv):=by
 have hp:=XA (some (Δ g off)) 64 64 k l x w U h O;have HP:=Aa hp;have hlen:((leBytes (l.set k x)).map bv).length=64:=by rw [BJ,leBytes_length,Di,hl]
 have HLEN:=Aa hlen;have hgw:g<w.heap.size:=by
  obtain⟨_,b,o,e,hb,_⟩:=h.at (show 0<64 by decide);injection e with e;injection e with e _ _;omega
 have HC:Hid (∀j,j<64->(w.cell? (Δ g (off+j))).isSome=true):=Aa (λj hj=>by
  obtain⟨_,b,o,e,hb,hc⟩:=h.at hj;injection e with e;injection e with e1 e2 _;subst e1 e2
  rw [hc];rfl)
 have HF:=Aa hf;clear hp hlen h hf;go_enter func107,ntmps107
 go_wp2_with fail
 refine HP.out.mono ?_;rintro e w1⟨gn,cn,rfl,on,hb1⟩;clear HP;obtain⟨hcn,rn⟩:=CP on;have hcell:∀j v,((leBytes (l.set k x)).map bv)[j]? =some v->w1.cell? (Δ gn (0+j))=some v:=λj v hj=>by
  have hlt:=(List.getElem?_eq_some_iff.1 hj).1;obtain⟨b,o,e,_,hc⟩:=rn.2 U;injection e with e;injection e with e1 e2 _;subst e1 e2
  rw [hc j (by rw [<-HLEN.out];exact hlt)];exact hj
 have hst:∀j,j<((leBytes (l.set k x)).map bv).length->(w1.cell? (Δ g (off+j))).isSome=true:=λj hj=>by
  rw [hb1.cell (p:=Δ g (off+j)) hgw];exact HC.out j (by rw [HLEN.out]at hj;exact hj)
 have hfz:∀j,j<((leBytes (l.set k x)).map bv).length->w1.frozen? (Δ g (off+j))=false:=λj hj=>by
  rw [hb1.frozen (p:=Δ g (off+j)) hgw];exact HF.out j (by rw [HLEN.out]at hj;exact hj)
 have HCE:=Aa hcell;have HST:=Aa hst;have HFZ:=Aa hfz;have hsz:(prog.info? 79).map (·.size)=some 64:=by kernel_rfl
 have HSZ:Hid ((prog.info? 79).map (·.size)=some ((leBytes (l.set k x)).map bv).length):=Aa (by rw [HLEN.out];exact hsz);have har:∀W,(Instr.arrayAt 79 (.slice (some (Φ gn)) 64 cn)).run prog W= .ok (Az gn) W:=λW=>by
  simp [Instr.arrayAt,run_underlying underlying79]
 clear hcell hst hfz rn on hsz
 go_wp2_with(first
  | (with_reducible refine Zq rfl 79 (.tmp 21) rfl gn 0 rfl ((leBytes (l.set k x)).map bv) _ underlying79 rfl HSZ.out HCE.out ?_)
  | (with_reducible refine QL rfl 79 (.tmp 24) (.tmp 22) rfl g off rfl ((leBytes (l.set k x)).map bv) rfl HSZ.out HST.out HFZ.out (Hm _) ?_)
  | fail)
 go_end0;exact⟨rfl,w1,hb1,rfl⟩
def Touch.Vr{F:Nat->Prop}{w w':World}{row:Option Nat}(h:w.grownBy w' row)(hF:∀k,row=some k->F k):Touch F w w':=
 ⟨h.os,h.tape,h.output,h.size,λb hb hn=>h.block b hb (λe=>hn (hF b e.symm))⟩
def Zp.append{w:World}{A:Option Addr}{cs:List (Nat×UInt64)}{n c:Nat}{hb:Option Nat}(h:Zp w A cs c hb)(hcn:n=cs.length)(ty:TypeId)(b:Nat)(cx:Nat×UInt64)(hbk:CS w b 204 [.int .i64 (cx.1:Nat),.int .u64 (cx.2.toNat:Nat)])(hn:n<=1000000):
 ∃g c' w',(Builtin.append_ #[80,80] ty #[.slice A n c,.slice (some (Φ b)) 1 1]).run prog w= .ok (.slice (some (Φ g)) (n+1) c') w'/\
  Zp w' (some (Φ g)) (cs++[cx]) c' (some g)/\(hb=some g\/g=w.heap.size)/\Touch (λk=>hb=some k) w w':=by
 obtain⟨x,hx⟩:∃x,x=Value.int .i64 (cx.1:Nat):=⟨_,rfl⟩;obtain⟨y,hy⟩:∃y,y=Value.int .u64 (cx.2.toNat:Nat):=⟨_,rfl⟩;have hch:chV (cs++[cx])=chV cs++[x,y]:=by rw [zQ,hx,hy];rfl
 have hcl:(cs++[cx]).length=n+1:=by rw [hcn];simp
 have hx1:x.oneCell'=true:=by rw [hx];rfl
 have hy1:y.oneCell'=true:=by rw [hy];rfl
 rw [<-hx,<-hy]at hbk;clear hx hy;obtain⟨i,hi,hz0,hz1,hz2⟩:∃i,prog.info? 204=some i/\i.zero=some (.agg #[.int .i64 0,.int .u64 0])/\i.size=2/\i.bytes=16:=by
  have hI:(prog.info? 204).map (λi=>(i.zero,i.size,i.bytes))=some (some (.agg #[.int .i64 0,.int .u64 0]),2,16):=by kernel_rfl
  exact info_parts hI
 have hnews:∀j u,[x,y][j]? =some u->w.cell? (((Φ b):Addr).add j)=some u:=λj u hu=>by
  rw [Addr.add_lit];have:=World.news_of_block hbk j u (by simpa using hu);rw [Addr.add_lit]at this;exact this
 have h1:∀u∈[x,y],u.oneCell'=true:=by
  intro u hu;simp at hu;rcases hu with rfl| rfl<;>assumption
 unfold Zp;rw [hch,hcl];rcases h with⟨rfl,rfl,rfl⟩| ⟨h0,e1,e2,hown⟩
 ·simp only [List.length_nil]at hcn;subst hcn;have hs:=Src.ofSlice (P:=prog) w underlying80 (Φ b) 1 1 [x,y] (size:=i.size) (by rw [hz1];rfl) hnews h1;have hr:=run_append_grow_src (P:=prog) w 80 80 ty 204 i _ underlying80 hi hz0 A 0 0 []
   (by cases A with
    | none=>exact run_firstCells_none w.drew i.size 0 0 0
    | some a=>exact run_firstCells_some w.drew i.size 0 a 0 0 [] Θ Θ) (.slice (some (Φ b)) 1 1) 1 [x,y] hs U U (by rw [hz2];decide)
  have hr0:=run_append_grow_src (P:=prog) w 80 80 ty 204 i _ underlying80 hi hz0 none 0 0 []
   (run_firstCells_none w.drew i.size 0 0 0) (.slice (some (Φ b)) 1 1) 1 [x,y] hs U U (by rw [hz2];decide)
  obtain⟨g,cap,w',a1,a2,a3,a4,a5⟩:=run_append_lies (P:=prog) w 80 ty 0 204 i _ 2 16 underlying80 hi hz0 hz1 hz2 rfl U (.slice none 0 0) 0 [] (World.ownsRow_nil w 0 204 2) (Φ b) 1 1 [x,y] rfl hnews h1 U (by unfold maxLen;omega) O (Nat.zero_le _) _ rfl;refine⟨g,cap,w',(hr.trans hr0.symm).trans a1,.inr ⟨g,rfl,rfl,a2⟩,?_,Touch.Vr a3 (λk hk=>by cases hk)⟩;rcases a4 with a4| a4
  ·cases a4
  ·exact .inr a4
 ·subst e1 e2;rw [<-hcn]at hown;obtain⟨g,cap,w',a1,a2,a3,a4,a5⟩:=run_append_lies (P:=prog) w 80 ty 0 204 i _ 2 16 underlying80 hi hz0 hz1 hz2 rfl U _ n (chV cs) hown (Φ b) 1 1 [x,y] rfl hnews h1 U (by unfold maxLen;omega) O (Nat.zero_le _) _ rfl;refine⟨g,cap,w',a1,.inr ⟨g,rfl,rfl,a2⟩,?_,Touch.Vr a3 (λk hk=>hk)⟩;rcases a4 with a4| a4
  ·left;exact a4
  ·right;exact a4
section
variable{w:World}{d L:Nat}{ws:Nat->UInt64}{len:Mode}{mark:Nat->Nat}{g:Nat}{hb:Nat->Option Nat}
def MK{w:World}{g i:Nat}{cur:Array Value}{e:TypeId}{fz:Nat×Nat}(v:Value)(h:w.heap[g]? =some (.cells cur e fz)):(w.setCell (Δ g i) v).heap[g]? =some (.cells (cur.setIfInBounds i v) e fz):=by
 simp [World.setCell,Array.getElem?_modify,h]
def BK.oQ(h:BK w d L ws len mark g hb):g<w.heap.size:=h.lt g (.inr (.inl rfl))
def BK.dlt(h:BK w d L ws len mark g hb):d<w.heap.size:=h.lt d (.inl rfl)
def BK.step(h:BK w d L ws len mark g hb){w':World}(t:Touch (λb=>b=d) w w'){st':Int}(hB:CS w' d 78 [.slice (some (Φ g)) L L,.bool (decide (len.tick.lf=0)),.int .i64 len.tick.lf,.int .i64 st']):BK w' d L ws len.tick mark g hb:=by
 have hk:∀b,b<w.heap.size->b≠d->w'.heap[b]? =w.heap[b]? :=λb hl hb'=>t.block b hl hb'
 obtain⟨cur,hg,hs,h1,h2⟩:=h.blk;refine⟨⟨st',hB⟩,?_,h.gd,⟨cur,(hk g h.oQ h.gd).trans hg,hs,h1,λi hi=> ?_⟩,h.bd,h.inj,h.mrk⟩
 ·have:=h.lfr;show-1<=(if 0<len.lf then len.lf-1 else len.lf)/\(if 0<len.lf then len.lf-1 else len.lf)<=1000000000;split<;>omega
 ·obtain⟨A,c,e1,e2,hc⟩:=h2 i hi;exact⟨A,c,e1,e2,hc.keep (λb hb' hl=>hk b hl (h.bd i hi b hb').2)⟩
def BK.grow(h:BK w d L ws len mark g hb){i:Nat}(hi:i<L){w2:World}(t:Touch (λk=>hb i=some k) w w2){g2 c':Nat}{cx:Nat×UInt64}(hc:Zp w2 (some (Φ g2)) (len.Nk i++[cx]) c' (some g2))(hg2:hb i=some g2\/w.heap.size<=g2):
 BK (w2.setCell (Δ g (66*i+64)) (.slice (some (Φ g2)) (len i+1) c')) d L ws (len.note i cx) mark g (λk=>if k=i then some g2 else hb k):=by
 have hni:(len.note i cx).Nk i=len.Nk i++[cx]:=if_pos rfl;have hno:∀k,k≠i->(len.note i cx).Nk k=len.Nk k:=λk e=>if_neg e
 have dE:=h.oQ;have Auu:=h.dlt;have hk:∀b,b≠g->(w2.setCell (Δ g (66*i+64)) (.slice (some (Φ g2)) (len i+1) c')).heap[b]? =w2.heap[b]? :=λb hb'=>Below.heap_setCell w2 (Δ g (66*i+64)) _ b hb'
 have hng:¬hb i=some g:=λe=>(h.bd i hi g e).1 rfl
 have hnd:¬hb i=some d:=λe=>(h.bd i hi d e).2 rfl
 have h2g:g2≠g/\g2≠d:=by
  rcases hg2 with e| e
  ·exact h.bd i hi g2 e
  ·exact⟨O,O⟩
 obtain⟨st,hbx⟩:=h.box;obtain⟨cur,hg,hs,h1,h2⟩:=h.blk;have hgw:=(t.block g dE hng).trans hg;refine⟨⟨st,(hk d (λe=>h.gd e.symm)).trans ((t.block d Auu hnd).trans hbx)⟩,h.lfr,h.gd,⟨_,MK _ hgw,by rw [Hy];exact hs,λi' hi' k hk'=> ?_,λi' hi'=> ?_⟩,?_,?_,?_⟩
 ·rw [Be,if_neg O];exact h1 i' hi' k hk'
 ·obtain⟨A,c,e1,e2,hcc⟩:=h2 i' hi';by_cases e:i'=i
  ·subst e;refine⟨some (Φ g2),c',?_,?_,?_⟩
   ·rw [Be,if_pos rfl,if_pos O,Mode.Rx,if_pos rfl]
   ·rw [Be,if_neg O];exact e2
   ·rw [hni,if_pos rfl];exact hc.keep (λb hb' _=>hk b (by injection hb' with hb';omega))
  ·refine⟨A,c,?_,?_,?_⟩
   ·rw [Be,if_neg O,Mode.Rx,if_neg e];exact e1
   ·rw [Be,if_neg O];exact e2
   ·rw [hno _ e,if_neg e];exact hcc.keep (λb hb' hlt=>(hk b (h.bd i' hi' b hb').1).trans (t.block b hlt (h.inj i i' hi hi' (λx=>e x.symm) b · hb')))
 ·intro i' hi' b hb';by_cases e:i'=i
  ·rw [if_pos e]at hb';injection hb' with hb';subst hb';exact h2g
  ·rw [if_neg e]at hb';exact h.bd i' hi' b hb'
 ·intro a b ha hb' hab v hv;by_cases ea:a=i<;>by_cases eb:b=i
  ·omega
  ·rw [if_pos ea]at hv;rw [if_neg eb];injection hv with hv;subst hv
   intro hbb;rcases hg2 with e| e
   ·exact h.inj b i hb' hi eb g2 hbb e
   ·have:=h.lt g2 (.inr (.inr ⟨b,hb',hbb⟩));omega
  ·rw [if_neg ea]at hv;rw [if_pos eb];intro hbb;injection hbb with hbb;subst hbb
   rcases hg2 with e| e
   ·exact h.inj a i ha hi ea g2 hv e
   ·have:=h.lt g2 (.inr (.inr ⟨a,ha,hv⟩));omega
  ·rw [if_neg ea]at hv;rw [if_neg eb];exact h.inj a b ha hb' hab v hv
 ·intro i' hi';have:=h.mrk i' hi';by_cases e:i'=i
  ·subst e;rw [Mode.Rx,if_pos rfl];omega
  ·rw [Mode.Rx,if_neg e];exact this
def BK.put(h:BK w d L ws len mark g hb){i k:Nat}(hi:i<L)(hk8:k<8)(x:UInt64):
 BK (w.setCells g (66*i) ((leBytes ((EN ws i).set k x)).map bv)) d L (λj=>if j=8*i+k then x else ws j) len mark g hb:=by
 have dE:=h.oQ;have hl:((leBytes ((EN ws i).set k x)).map bv).length=64:=by rw [BJ,leBytes_length,Di,GZ]
 have hk:∀b,b≠g->b<w.heap.size->(w.setCells g (66*i) ((leBytes ((EN ws i).set k x)).map bv)).heap[b]? =w.heap[b]? :=λb hb' hlt=>cZ w g _ _ hlt hb'
 obtain⟨st,hbx⟩:=h.box;obtain⟨cur,hg,hs,h1,h2⟩:=h.blk;obtain⟨cur',c1,c2,c3⟩:=Ed g _ _ ((leBytes ((EN ws i).set k x)).map bv) (66*i) w cur hg (by rw [hl,hs];omega);rw [hl]at c3;refine⟨⟨st,(hk d (λe=>h.gd e.symm) h.dlt).trans hbx⟩,h.lfr,h.gd,⟨cur',c1,by rw [c2];exact hs,λi' hi' j hj=> ?_,λi' hi'=> ?_⟩,h.bd,h.inj,h.mrk⟩
 ·rw [c3];by_cases e:i'=i
  ·subst e;rw [if_pos O,show 66*i'+j-66*i'=j by omega,Ab2 ws i' k x hk8,List.getElem?_map]
  ·rw [if_neg O,oM ws i i' k x hk8 e];exact h1 i' hi' j hj
 ·obtain⟨A,c,e1,e2,hc⟩:=h2 i' hi';refine⟨A,c,?_,?_,hc.keep (λb hb' hlt=>hk b (h.bd i' hi' b hb').1 hlt)⟩
  ·rw [c3,if_neg O];exact e1
  ·rw [c3,if_neg O];exact e2
end
def Touch.setCells{F:Nat->Prop}{w w':World}(h:Touch F w w'){g o:Nat}{vs:List Value}(hg:F g\/w.heap.size<=g):Touch F w (w'.setCells g o vs):=by
 refine⟨?_,?_,?_,?_,λb hb hn=> ?_⟩
 ·rw [ET];exact h.os
 ·rw [Ee];exact h.tape
 ·rw [DD];exact h.output
 ·rw [setCells_size];exact h.size
 ·rw [cZ w' g o vs (Nat.lt_of_lt_of_le hb h.size) (λe=>hg.elim (λhf=>hn (e▸hf)) (λhle=>O))];exact h.block b hb hn
def BK.below{w w':World}{d L:Nat}{ws:Nat->UInt64}{len:Mode}{mark:Nat->Nat}{g:Nat}{hb:Nat->Option Nat}(h:BK w d L ws len mark g hb)(k:η w w'):BK w' d L ws len mark g hb:=
 h.keep (λb _ hlt=>k.block b hlt)
def wz(d L:Nat)(ws:Nat->UInt64)(len:Mode)(mark:Nat->Nat)(g:Nat)(hb:Nat->Option Nat)(j:Nat)(w:World)(hL:L<=1024)(hu:len.lf≠0)(h:BK w d L ws len mark g hb)(hj:j<8*L):
 Calls prog 175 #[Az d,.int .i64 ((8*j:Nat):Int),.int .u64 ((ws j).toNat:Int)] w λe w'=>e= .returned (.int .i64 0)/\BK w' d L ws len.tick mark g hb/\Touch (Dh d L g hb) w w':=by
 have H:=Aa h;obtain⟨st,hbx⟩:=h.box;rw [decide_eq_false hu]at hbx;obtain⟨y0,y1,y2,y3,f0,f1,f2,f3⟩:=CG hbx;have hl:=Vp d L ws len mark g hb j w hL hu h hj;have HL:=Aa hl;have hd:=Vq d g L len.lf st w hu h.lfr hbx;have HD:=Aa hd;clear hl hd h hbx;go_enter func175,ntmps175
 go_wp2_with fail
 refine HL.out.mono ?_;rintro e w'⟨rfl,rfl⟩;clear HL
 go_wp2_with fail
 refine HD.out.mono ?_;rintro e w'⟨rfl,ht,st',hB⟩;clear HD y0 y1 y2 y3 f0 f1 f2 f3
 go_wp2_with fail
 go_ret;exact⟨rfl,H.out.step ht hB,ht.mono (λb h=> .inl h)⟩
def Ab5(d L:Nat)(ws:Nat->UInt64)(len:Mode)(mark:Nat->Nat)(g:Nat)(hb:Nat->Option Nat)(j:Nat)(x:UInt64)(w:World)(hL:L<=1024)(hu:len.lf≠0)(h:BK w d L ws len mark g hb)(hj:j<8*L)(hne:ws j≠x)(hlen:len (j/8)<=1000000):
 Calls prog 175 #[Az d,.int .i64 ((8*j:Nat):Int),.int .u64 (x.toNat:Int)] w λe w'=>e= .returned (.int .i64 0)/\
  ∃g2,(hb (j/8)=some g2\/w.heap.size<=g2)/\BK w' d L (λi=>if i=j then x else ws i) (len.note (j/8) (8*(j%8),ws j)).tick mark g (λk=>if k=j/8 then some g2 else hb k)/\Touch (Dh d L g hb) w w':=by
 obtain⟨st,hbx⟩:=h.box;have Afq:=h.lfr;rw [decide_eq_false hu]at hbx;obtain⟨y0,y1,y2,y3,f0,f1,f2,f3⟩:=CG hbx;have hl:=Vp d L ws len mark g hb j w hL hu h hj;have HL:=Aa hl;have t1:(((ws j).toNat:Int)!=(x.toNat:Int))=true:=by
  rw [bne_iff_ne];intro e;exact hne (UInt64.toNat_inj.1 O)
 obtain⟨cur,hg,hs,h1,h2⟩:=h.blk;obtain⟨A,c,e1,e2,hc⟩:=h2 (j/8) O;have z1:w.cell? (Δ g (66*(j/8)+64))=some (.slice A (len (j/8)) c):=by rw [cell_of_row w g _ cur _ (0,0) hg];exact e1
 have z2:w.frozen? (Δ g (66*(j/8)+64))=false:=by simp [GL,hg]
 rw [show 66*(j/8)+64=8*j/64*66+64 by omega]at z1 z2;have H:=Aa h;have HC:=Aa hc;have HG:=Aa h1;clear hl h hbx h1 h2 hc hg e1 e2;have hall:η w (w.alloc (.cells #[.int .i64 (8*(j:Int)%64),.int .u64 ((ws j).toNat:Int)] 204)):=(Below.refl _ _).alloc (Ad _) _;have hR1:=H.out.below hall;have hc1:=HC.out.keep (w':=w.alloc (.cells #[.int .i64 (8*(j:Int)%64),.int .u64 ((ws j).toNat:Int)] 204)) (λb _ hlt=>hall.block b hlt);obtain⟨g2,c',w2,hrun,hch,hg2,ht⟩:=hc1.append (n:=len (j/8)) rfl 80 w.heap.size (8*(j%8),ws j) (by rw [show((8*(j%8):Nat):Int)=8*(j:Int)%64 by omega];exact heap_alloc_new w _) hlen;have hng:¬hb (j/8)=some g:=λe=>(H.out.bd (j/8) O g e).1 rfl
 have hgb:w2.heap[g]? =w.heap[g]? :=(ht.block g (by have:=H.out.oQ;simp;omega) hng).trans (hall.block g H.out.oQ);have z3:w2.cell? (Δ g (8*j/64*66+64))=some (.slice A (len (j/8)) c):=(World.cell?_of_block hgb).trans z1;have z4:w2.frozen? (Δ g (8*j/64*66+64))=false:=(World.frozen?_of_block hgb).trans z2;have Arj:hb (j/8)=some g2\/w.heap.size<=g2:=hg2.imp id (λe=>by rw [e];simp);have hR3:=hR1.grow (i:=j/8) O ht hch (hg2.imp id (λe=>O));have hT3:Touch (Dh d L g hb) w (w2.setCell (Δ g (66*(j/8)+64)) (.slice (some (Φ g2)) (len (j/8)+1) c')):=
  ((Touch.of_below (F:=Dh d L g hb) hall).trans (ht.mono (λk hk=> .inr (.inr ⟨j/8,O,hk⟩))) (λb hb'=> .inl hb')).setCell (.inl (.inr (.inl rfl))) _
 have Ark:=Aa hrun;have HZ3:=Aa z3;have HZ4:=Aa z4;have HR3:=Aa hR3;have HT3:=Aa hT3;have HG2:=Aa Arj;clear hrun z3 z4 hall hR1 hc1 hch hg2 ht hng hgb Arj hR3 hT3;go_enter func175,ntmps175
 go_wp2_with fail
 refine HL.out.mono ?_;rintro e w'⟨rfl,rfl⟩;clear HL
 go_wp2_with(at_builtin;go_loud(refine FX _ rfl (.tmp 36) (.tmp 40) 80 80 rfl (.slice A (len (j/8)) c) (.slice (some (Φ w.heap.size)) 1 1) rfl rfl _ _ Ark.out ?_;clear Ark;have z3:=HZ3.out;have z4:=HZ4.out))
 rw [show 8*j/64*66=66*(j/8)by omega,show 8*(j:Int)%64=((8*(j%8):Nat):Int)by omega];refine(oP g (66*(j/8)) (j%8) (EN ws (j/8)) x _ (GZ _ _) (HR3.out.line (j/8) O) ?_ O).mono ?_
 ·obtain⟨Axh,hg3,_⟩:=HR3.out.blk;intro t _;simp [GL,hg3]
 rintro e w5⟨rfl,w4,hb4,rfl⟩;have Zx:=(HR3.out.below hb4).put (i:=j/8) (k:=j%8) O O x;have hT5:=(HT3.out.trans (Touch.of_below (F:=Dh d L g hb) hb4) (λb h=> .inl h)).setCells (g:=g) (o:=66*(j/8)) (vs:=(leBytes ((EN ws (j/8)).set (j%8) x)).map bv) (.inl (.inr (.inl rfl)));rw [show 8*(j/8)+j%8=j by omega]at Zx;generalize w4.setCells g (66*(j/8)) ((leBytes ((EN ws (j/8)).set (j%8) x)).map bv)=w5 at Zx hT5⊢;obtain⟨st5,wB⟩:=Zx.box;rw [show decide ((len.note (j/8) (8*(j%8),ws j)).lf=0)=false from decide_eq_false hu]at wB;have HD:=Aa (Vq d g L len.lf st5 _ hu Afq wB);have uK:=Aa Zx;have HT5:=Aa hT5;clear Zx hT5 wB z3 z4 HZ3 HZ4 hb4 HT3 HR3
 go_wp2_with fail
 refine HD.out.mono ?_;rintro e w'⟨rfl,ht6,st',O5⟩;clear HD
 go_wp2_with fail
 go_ret;exact⟨rfl,g2,HG2.out,uK.out.step ht6 O5,HT5.out.trans ht6 (λb h=> .inl (.inl h))⟩
def BK.mark{w:World}{d L:Nat}{ws:Nat->UInt64}{len:Mode}{mark:Nat->Nat}{g:Nat}{hb:Nat->Option Nat}(h:BK w d L ws len mark g hb){i:Nat}(hi:i<L)(m:Nat)(hm:m<=len i+1):
 BK (w.setCell (Δ g (66*i+65)) (.int .i64 (m:Int))) d L ws len (λk=>if k=i then m else mark k) g hb:=by
 have hk:∀b,b≠g->(w.setCell (Δ g (66*i+65)) (.int .i64 (m:Int))).heap[b]? =w.heap[b]? :=λb hb'=>Below.heap_setCell w (Δ g (66*i+65)) _ b hb'
 obtain⟨st,hbx⟩:=h.box;obtain⟨cur,hg,hs,h1,h2⟩:=h.blk;refine⟨⟨st,(hk d (λe=>h.gd e.symm)).trans hbx⟩,h.lfr,h.gd,⟨_,MK _ hg,by rw [Hy];exact hs,λi' hi' k hk'=> ?_,λi' hi'=> ?_⟩,h.bd,h.inj,λi' hi'=> ?_⟩
 ·rw [Be,if_neg O];exact h1 i' hi' k hk'
 ·obtain⟨A,c,e1,e2,hcc⟩:=h2 i' hi';refine⟨A,c,?_,?_,hcc.keep (λb hb' _=>hk b (h.bd i' hi' b hb').1)⟩
  ·rw [Be,if_neg O];exact e1
  ·by_cases e:i'=i
   ·subst e;rw [Be,if_pos rfl,if_pos O,if_pos rfl]
   ·rw [Be,if_neg O,if_neg e];exact e2
 ·show(if i'=i then m else mark i')<=len i'+1;by_cases e:i'=i
  ·rw [if_pos e];subst e;exact hm
  ·rw [if_neg e];exact h.mrk i' hi'
def Ab6(d L:Nat)(ws:Nat->UInt64)(len:Mode)(mark:Nat->Nat)(g:Nat)(hb:Nat->Option Nat)(off:Nat)(w:World)(hL:L<=1024)(hu:len.lf≠0)(h:BK w d L ws len mark g hb)(hj:off<64*L)(hlen:len (off/64)<=1000001):
 Calls prog 177 #[Az d,.int .i64 (off:Int)] w λe w'=>e= .returned (.int .i64 0)/\
  BK w' d L ws len.tick (λk=>if k=off/64 then len (off/64)+1 else mark k) g hb/\Touch (Dh d L g hb) w w':=by
 obtain⟨st,hbx⟩:=h.box;have Afq:=h.lfr;rw [decide_eq_false hu]at hbx;obtain⟨y0,y1,y2,y3,f0,f1,f2,f3⟩:=CG hbx;have ha:=wu d L g off 1 (.int .i64 len.lf) (.int .i64 st) w hL hbx O U O U;have HA:=Aa ha;obtain⟨cur,hg,hs,h1,h2⟩:=h.blk;obtain⟨A,c,e1,e2,hc⟩:=h2 (off/64) O;have z1:w.cell? (Δ g (66*(off/64)+64))=some (.slice A (len (off/64)) c):=by rw [cell_of_row w g _ cur _ (0,0) hg];exact e1
 have z2:w.frozen? (Δ g (66*(off/64)+65))=false:=by simp [GL,hg]
 have z3:w.cell? (Δ g (66*(off/64)+65))=some (.int .i64 (mark (off/64):Int)):=by rw [cell_of_row w g _ cur _ (0,0) hg];exact e2
 rw [show 66*(off/64)+64=off/64*66+64 by omega]at z1;rw [show 66*(off/64)+65=off/64*66+65 by omega]at z2 z3;have hm:=h.mark (i:=off/64) O (len (off/64)+1) (Ad _);have ht:=(Touch.refl (Dh d L g hb) w).setCell (p:=Δ g (66*(off/64)+65)) (.inl (.inr (.inl rfl))) (.int .i64 ((len (off/64)+1:Nat):Int));have HM:=Aa hm;have HT:=Aa ht;clear ha h hbx h1 h2 hc hg e1 e2 hm ht;go_enter func177,ntmps177
 go_wp2_with fail
 refine HA.out.mono ?_;rintro e w'⟨rfl,rfl⟩;clear HA
 go_wp2_with fail
 rw [show off/64*66=66*(off/64)by omega,show((len (off/64):Int)+1)=((len (off/64)+1:Nat):Int)by omega];have hR:=HM.out;have hT:=HT.out;clear HM HT;generalize w.setCell (Δ g (66*(off/64)+65)) (.int .i64 ((len (off/64)+1:Nat):Int))=w5 at hR hT⊢;obtain⟨st5,wB⟩:=hR.box;rw [decide_eq_false hu]at wB;have HD:=Aa (Vq d g L len.lf st5 _ hu Afq wB);have HR:=Aa hR;have HT:=Aa hT;clear hR hT wB;refine HD.out.mono ?_;rintro e w'⟨rfl,ht6,st',O5⟩;clear HD
 go_wp2_with fail
 go_ret;exact⟨rfl,HR.out.step ht6 O5,HT.out.trans ht6 (λb h=> .inl (.inl h))⟩
def wC(A:Option Addr)(c:Nat)(w:World):
 Calls prog 195 #[.slice A 0 c] w λe w'=>∃B,e= .returned (.slice B 0 0)/\η w w':=by
 rcases A with _| ad
 ·have q1:=λW=>Jl (P:=prog) W 80 204 none 0 c 0 0 underlying80
  go_enter func195,ntmps195;go_wp2;go_ret;exact⟨_,rfl,Below.refl _ _⟩
 ·have q1:=λW=>Jl (P:=prog) W 80 204 (some ad) 0 c 0 0 underlying80
  obtain⟨i,hi,hz0,hz1,hz2⟩:∃i,prog.info? 204=some i/\i.zero=some (.agg #[.int .i64 0,.int .u64 0])/\i.size=2/\i.bytes=16:=by
   have hI:(prog.info? 204).map (λi=>(i.zero,i.size,i.bytes))=some (some (.agg #[.int .i64 0,.int .u64 0]),2,16):=by kernel_rfl
   exact info_parts hI
  have hr:(Builtin.append_ #[80,80] 80 #[.slice (some (Φ w.heap.size)) 0 0,.slice (some ad) 0 c]).run prog (w.alloc (.cells #[] 204))= .ok (.slice (some (Φ w.heap.size)) 0 0) (w.alloc (.cells #[] 204)):=by
   simp [Builtin.append_,run_underlying underlying80,sizeOf,typeInfo,hi,Builtin.lenOf,Builtin.firstCells,loadCells,loadCellsFrom,storeCells]
  have HR:=Aa hr;clear hr;go_enter func195,ntmps195
  go_wp2_with(at_builtin;go_loud(refine FX _ rfl (.tmp 5) (.tmp 6) 80 80 rfl (.slice (some (Φ w.heap.size)) 0 0) (.slice (some ad) 0 c) rfl rfl _ _ HR.out ?_))
  go_ret;exact⟨_,rfl,(Below.refl _ _).alloc (Ad _) _⟩
def BK.clear{w:World}{d L:Nat}{ws:Nat->UInt64}{len:Mode}{mark:Nat->Nat}{g:Nat}{hb:Nat->Option Nat}(h:BK w d L ws len mark g hb){i:Nat}(hi:i<L){w1:World}(k:η w w1)(B:Option Addr):
 BK ((w1.setCell (Δ g (66*i+64)) (.slice B 0 0)).setCell (Δ g (66*i+65)) (.int .i64 0)) d L ws (len.wipe i) (λk=>if k=i then 0 else mark k) g (λk=>if k=i then none else hb k):=by
 have hni:(len.wipe i).Nk i=[]:=if_pos rfl;have hno:∀k,k≠i->(len.wipe i).Nk k=len.Nk k:=λk e=>if_neg e
 have h:=h.below k;have hk:∀b,b≠g->((w1.setCell (Δ g (66*i+64)) (.slice B 0 0)).setCell (Δ g (66*i+65)) (.int .i64 0)).heap[b]? =w1.heap[b]? :=λb hb'=>(Below.heap_setCell _ (Δ g (66*i+65)) _ b hb').trans (Below.heap_setCell w1 (Δ g (66*i+64)) _ b hb')
 obtain⟨st,hbx⟩:=h.box;obtain⟨cur,hg,hs,h1,h2⟩:=h.blk;refine⟨⟨st,(hk d (λe=>h.gd e.symm)).trans hbx⟩,h.lfr,h.gd,⟨_,MK _ (MK _ hg),by rw [Hy,Hy];exact hs,λi' hi' k hk'=> ?_,λi' hi'=> ?_⟩,λi' hi' b hb'=> ?_,λa b ha hb' hab v hv=> ?_,λi' hi'=> ?_⟩
 ·rw [Be,if_neg O,Be,if_neg O];exact h1 i' hi' k hk'
 ·obtain⟨A,c,e1,e2,hcc⟩:=h2 i' hi';by_cases e:i'=i
  ·subst e;refine⟨B,0,?_,?_,.inl ⟨if_pos rfl,hni,rfl⟩⟩
   ·rw [Be,if_neg O,Be,if_pos rfl,if_pos O,Mode.Zo,if_pos rfl]
   ·rw [Be,if_pos rfl,if_pos (by rw [Hy];omega),if_pos rfl];rfl
  ·refine⟨A,c,?_,?_,?_⟩
   ·rw [Be,if_neg O,Be,if_neg O,Mode.Zo,if_neg e];exact e1
   ·rw [Be,if_neg O,Be,if_neg O,if_neg e];exact e2
   ·rw [hno _ e,if_neg e];exact hcc.keep (λb hb' _=>hk b (h.bd i' hi' b hb').1)
 ·by_cases e:i'=i
  ·rw [if_pos e]at hb';cases hb'
  ·rw [if_neg e]at hb';exact h.bd i' hi' b hb'
 ·by_cases ea:a=i
  ·rw [if_pos ea]at hv;cases hv
  ·rw [if_neg ea]at hv;by_cases eb:b=i
   ·rw [if_pos eb];exact λx=>by cases x
   ·rw [if_neg eb];exact h.inj a b ha hb' hab v hv
 ·show(if i'=i then 0 else mark i')<=(len.wipe i).len i'+1;by_cases e:i'=i
  ·rw [if_pos e];omega
  ·rw [if_neg e,Mode.Zo,if_neg e];exact h.mrk i' hi'
