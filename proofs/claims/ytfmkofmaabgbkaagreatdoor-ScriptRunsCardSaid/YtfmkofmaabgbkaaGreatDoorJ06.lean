import Derived.Lib.TrailingZeros
import Derived.Test.YtfmkofmaabgbkaaGreatDoorJ05
set_option linter.defProp false
set_option maxHeartbeats 32000000
set_option maxRecDepth 100000
open Go.World renaming block_lt_of_cell?->Gu,frozen?->Jg,cell?_of_block->BI,cell?_alloc_past->Dc,cell?_alloc_at->J8
open Go.Lib renaming hid->Ac
open Nat renaming zero_le->BA,le_refl->Ae,le_trans->Bq,min_eq_left->NW,add_sub_cancel_left->Si,sub_self->U5,lt_irrefl->xH,lt_of_lt_of_le->Be
open List renaming replicate->BB,ext_getElem->Fz,getElem?_replicate->IC,getElem?_append_left->DK,range->Ep,getElem?_map->DJ,length_take->Ed,getD_eq_getElem?_getD->Bg,getElem?_take->Di,getElem?_eq_getElem->Ah,mem_cons_self->Bo,length_cons->Bv,length_nil->Dx,getElem_set->Lc,getElem?_append_right->ED
open Go.Value renaming int->Aw,slice->Ad,func->Ar4
open Option renaming map_some->Ez,getD_some->Qk
open Array renaming getElem?_eq_some_iff->AA
open Go.Value renaming slice->fD,int->fP,tuple->gJ
open Go.Ending renaming returned->gY
open Go.IntKind renaming i64->gZ,u64->ig
open Go.Obj renaming cells->iy
open Option renaming some->iC,none->iD
open Bool renaming false->jw
open Go renaming World->jD,Value->jL
namespace Go.Proofs.YtfmkofmaabgbkaaGreatDoor
open Go.RowKit
open Go.Proofs.Tryz
def gy(g i:Nat)(w:jD)(b:w.cell? (Δ g (66*i+65))=iC (fP gZ 0)):
 Calls prog 108 #[.pointer (iC (Δ g (66*i)))] w λa w'=>a=gY (gJ #[])/\w=w':=by
 go_enter func108,ntmps108;go_wp2;go_end0;exact⟨rfl,rfl⟩
def Ahq(A:Option Addr)(n c:Nat)(j:n<=1000000):∃b,∀W,(Instr.slice 206 (fD A n c) (iC (fP gZ (n:Int))) iD iD).run prog W=.ok (fD b 0 (c-n)) W:=by
 obtain⟨a,f,k,g,l⟩:∃a,prog.info? 259=iC a/\a.zero=iC (.agg #[fP gZ 0,fP ig 0])/\a.size=2/\a.bytes=16:=by
  have e:(prog.info? 259).map (λa=>(a.zero,a.size,a.bytes))=iC (iC (.agg #[fP gZ 0,fP ig 0]),2,16):=by kernel_rfl
  exact info_parts e
 refine⟨if c=n then A else A.map (·.add (n*2)),λW=>?_⟩;have d:=run_sliceBound (P:=prog) (w:=W) gZ (n:Int) n .sliceB O O;have i:(sizeOf 259).run prog W=.ok 2 W:=by simp[sizeOf,typeInfo,f,g]
 simp[Instr.slice,run_underlying underlying206,Instr.sliceBounds,d]
def yD(g i n c:Nat)(A:Option Addr)(w:jD)(k:n<=1000000)(j:w.cell? (Δ g (66*i+64))=iC (fD A n c))(l:w.cell? (Δ g (66*i+65))=iC (fP gZ ((n:Int)+1)))
 (f1:w.frozen? (Δ g (66*i+64))=jw)(f2:w.frozen? (Δ g (66*i+65))=jw):
 Calls prog 108 #[.pointer (iC (Δ g (66*i)))] w λf w'=>f=gY (gJ #[])/\∃e d,η w d/\w'=(d.setCell (Δ g (66*i+64)) (fD e 0 0)).setCell (Δ g (66*i+65)) (fP gZ 0):=by
 have b:g<w.heap.size:=Gu w _ j;obtain⟨m,r⟩:=Ahq A n c k;have o:IntKind.i64.wrap ((n:Int)+1-1)=(n:Int):=by rw[Int.add_sub_cancel];exact IntWalk.i64_in _ O
 have q:IntKind.i64.wrap (n:Int)=(n:Int):=IntWalk.i64_in _ O;go_enter func108,ntmps108
 go_wp2_with fail
 go_region_with(go_at_call 151;go_loud(refine(yC _ _ _).mono ?_;rintro f d⟨e,rfl,a⟩;have s:=(a.cell (p:=Δ g (66*i+64)) b).trans j;have t:=(a.frozen (p:=Δ g (66*i+64)) b).trans f1;have u:=(a.cell (p:=Δ g (66*i+65)) b).trans l;have v:=(a.frozen (p:=Δ g (66*i+65)) b).trans f2))
 all_goals(go_wp2_with fail)
 all_goals(go_end0)
 all_goals(exact⟨rfl,e,d,⟨a.os,a.tape,a.output,a.size,a.block⟩,rfl⟩)
def U9(k:Nat)(len:Mode)(mark:Nat->Nat):Mode:=⟨λa=>if a<k/\mark a≠0 then[]else len.YR a,len.lf⟩
def Ny(k:Nat)(mark:Nat->Nat)(i:Nat):Nat:=if i<k then 0 else mark i
def LZ(k:Nat)(mark:Nat->Nat)(hb:Nat->Option Nat)(i:Nat):Option Nat:=if i<k/\mark i≠0 then iD else hb i
def Adz(len:Mode)(mark:Nat->Nat):U9 0 len mark=len:=by
 cases len;rfl
def yE(mark:Nat->Nat):Ny 0 mark=mark:=by funext i;simp[Ny]
def Ahr(mark:Nat->Nat)(hb:Nat->Option Nat):LZ 0 mark hb=hb:=by funext i;simp[LZ]
def Al4(k:Nat)(len:Mode)(mark:Nat->Nat)(h:mark k=0):U9 (k+1) len mark=U9 k len mark:=by
 unfold U9;congr 1;funext i;by_cases a:i=k
 ·subst a;simp[h]
 ·simp only[show(i<k+1)=(i<k)by apply propext;omega]
def Ahs(k:Nat)(mark:Nat->Nat)(h:mark k=0):Ny (k+1) mark=Ny k mark:=by
 funext i;unfold Ny;by_cases a:i=k
 ·subst a;simp[h]
 ·simp only[show(i<k+1)=(i<k)by apply propext;omega]
def Apq(k:Nat)(mark:Nat->Nat)(hb:Nat->Option Nat)(h:mark k=0):LZ (k+1) mark hb=LZ k mark hb:=by
 funext i;unfold LZ;by_cases a:i=k
 ·subst a;simp[h]
 ·simp only[show(i<k+1)=(i<k)by apply propext;omega]
def Aht(k:Nat)(len:Mode)(mark:Nat->Nat)(h:mark k≠0):U9 (k+1) len mark=(U9 k len mark).wipe k:=by
 unfold U9 Mode.wipe;congr 1;funext i;by_cases a:i=k
 ·subst a;simp[h]
 ·simp only[show(i<k+1)=(i<k)by apply propext;omega,ku a]
def Ad0(k:Nat)(mark:Nat->Nat):Ny (k+1) mark=λa=>if a=k then 0 else Ny k mark a:=by
 funext a;unfold Ny;by_cases b:a=k
 ·subst b;simp
 ·simp only[show(a<k+1)=(a<k)by apply propext;omega,ku b]
def Al5(k:Nat)(mark:Nat->Nat)(hb:Nat->Option Nat)(h:mark k≠0):LZ (k+1) mark hb=λa=>if a=k then iD else LZ k mark hb a:=by
 funext a;unfold LZ;by_cases b:a=k
 ·subst b;simp[h]
 ·simp only[show(a<k+1)=(a<k)by apply propext;omega,ku b]
def Ahu(d L:Nat)(ws:Nat->UInt64)(len:Mode)(mark:Nat->Nat)(g:Nat)(hb:Nat->Option Nat)(k:Nat)(w:jD)(q:k<L)(h:CY w d L ws (U9 k len mark) (Ny k mark) g (LZ k mark hb))
 (u:mark k=0\/mark k=len k+1)(t:len k<=1000000):
 Calls prog 108 #[.pointer (iC (Δ g (66*k)))] w λf w'=>f=gY (gJ #[])/\
  CY w' d L ws (U9 (k+1) len mark) (Ny (k+1) mark) g (LZ (k+1) mark hb)/\Touch (λb=>b=g) w w':=by
 obtain⟨l,c,C,A,s⟩:=h.blk;obtain⟨i,j,m,n,B⟩:=s k q;have x:(U9 k len mark).len k=len k:=by simp[U9,Mode.len]
 have y:Ny k mark k=mark k:=by simp[Ny]
 rw[x]at m;rw[y]at n;have z:w.cell? (Δ g (66*k+64))=iC (fD i (len k) j):=by rw[cell_of_row w g _ l _ (0,0) c];exact m
 have e:w.cell? (Δ g (66*k+65))=iC (fP gZ (mark k:Int)):=by rw[cell_of_row w g _ l _ (0,0) c];exact n
 have f1:w.frozen? (Δ g (66*k+64))=jw:=by simp[Jg,c]
 have f2:w.frozen? (Δ g (66*k+65))=jw:=by simp[Jg,c]
 by_cases a:mark k=0
 ·rw[a]at e;refine(gy g k w e).mono ?_;rintro f w'⟨rfl,rfl⟩;refine⟨rfl,?_,Touch.refl _ _⟩;rw[Al4 _ _ _ a,Ahs _ _ a,Apq _ _ _ a];exact h
 ·have v:mark k=len k+1:=u.resolve_left a;rw[v,Int.natCast_add]at e;refine(yD g k (len k) j i w t z e f1 f2).mono ?_;rintro f w'⟨rfl,r,D,o,rfl⟩;refine⟨rfl,?_,Touch.setCell (F:=λb=>b=g) (Touch.setCell (F:=λb=>b=g) (Touch.of_below o) (p:=Δ g (66*k+64)) (.inl rfl) _) (p:=Δ g (66*k+65)) (.inl rfl) _⟩;rw[Aht _ _ _ a,Ad0,Al5 _ _ _ a];exact h.clear q o r
def Ad1(d L:Nat)(ws:Nat->UInt64)(len:Mode)(mark:Nat->Nat)(g:Nat)(hb:Nat->Option Nat)(w:jD)(H:L<=1024)(R:0<L)(r:len.lf≠0)(h:CY w d L ws len mark g hb)
 (y:∀b,b<L->mark b=0\/mark b=len b+1)(x:∀b,b<L->len b<=1000000):
 Calls prog 69 #[ptr0 d] w λc w'=>c=gY (fP gZ 0)/\
  CY w' d L ws (U9 L len mark).tick (Ny L mark) g (LZ L mark hb)/\Touch (Fe d L g hb) w w':=by
 obtain⟨N,k⟩:=h.box;have B:=h.lfr;rw[decide_eq_false r]at k;obtain⟨m,n,o,p,f0,f1,f2,f3⟩:=CS k;have v:=y9 d L g 0 1 (fP gZ len.lf) (fP gZ N) w H k O U U U;have s:=Ac v;have C:=Ac h;have E:=Ac y;have D:=Ac x;clear v h k y x;go_enter func69,ntmps69
 go_wp2_with fail
 refine s.mono ?_;rintro c w'⟨rfl,rfl⟩;clear s
 go_wp2_with fail
 clear m n o p f0 f1 f2 f3
 go_loopw [15](λb wr=>∃a:Nat,a<=L/\b=fP gZ a/\CY wr d L ws (U9 a len mark) (Ny a mark) g (LZ a mark hb)/\Touch (λj=>j=g) w wr)(λb _=>L-(intOf b).toNat)
 case atStart=>exact⟨0,BA _,rfl,by rw[Adz,yE,Ahr];exact C.out,Touch.refl _ _⟩
 case round=>
  obtain⟨a,S,rfl,f,l⟩:=hrel;obtain⟨P,e⟩:=f.box;rw[show decide ((U9 a len mark).lf=0)=jw from decide_eq_false r]at e;obtain⟨m,n,o,p,f0,f1,f2,f3⟩:=CS e;by_cases q:a<L
  ·have u:=Ac (Ahu d L ws len mark g hb a wr q f (E a q) (D a q));have i:=Ac l;clear f l e
   go_wp2_with fail
   rw[show a*66=66*a by omega];refine u.mono ?_;rintro c Q⟨rfl,K,z⟩;have M:=i.trans z (λj I=>.inl I);clear u i m n o p f0 f1 f2 f3 z
   go_wp2_with fail
   go_roundw
   case rel=>exact⟨a+1,O,by go_num,K,M⟩
   case measure=>simp[intOf];omega
  ·have J:a=L:=O;subst J;have t:=Ac (VZ d g a len.lf P wr r B e);have F:=Ac f;have i:=Ac l;clear f l e
   go_wp2_with fail
   refine t.mono ?_;rintro c Q⟨rfl,A,T,G⟩;clear t m n o p f0 f1 f2 f3
   go_wp2_with fail
   go_ret;exact⟨rfl,F.step A G,(i.mono (λj c=>.inr (.inl c))).trans A (λj h=>.inl (.inl h))⟩
def Nz:Array jL:=(BB 64 (Aw .u8 0)++[Ad iD 0 0,Aw gZ 0]).toArray
def Tryz.yF:(prog.info? 208).bind (λa=>a.zero.map (λb=>(b.cells,a.size,a.bytes)))=iC (Nz,66,96):=by kernel_rfl
def yG(i:Nat):leBytes (II (λ_=>0) i)=BB 64 0:=by
 have:II (λ_=>0) i=BB 8 0:=by
  apply Fz
  ·simp[II]
  ·intro c a b;rw[Ot,List.getElem_replicate]
 rw[this];decide
def Xv(L i k:Nat)(hi:i<L)(b:k<66):(madeCells Nz (L*66))[66*i+k]?=Nz[k]?:=by
 have a:Nz.size=66:=rfl;have:66*i+k<L*66:=O;unfold madeCells;rw[Array.getElem?_map,a];simp only[Array.getElem?_range,this,if_true,Ez];rw[show(66*i+k)%66=k by omega,getElem!_pos Nz k (by rw[a];exact b),Array.getElem?_eq_getElem (by rw[a];exact b)]
def CY.made{w:jD}{d g L:Nat}{st:Int}(e:CB w d 83 [fD (iC (Φ g)) L L,.bool jw,fP gZ (-1),fP gZ st])(l:g≠d)(f:w.heap[g]?=iC (iy (madeCells Nz (L*66)) 208 (0,0))):
 CY w d L (λ_=>0) M0 (λ_=>0) g (λ_=>iD):=by
 refine⟨⟨st,e⟩,by decide,l,⟨_,f,by rw[size_madeCells];omega,λi a k c=>?_,λi a=>⟨iD,0,?_,?_,.inl ⟨rfl,rfl,rfl⟩⟩⟩,λi a h b=>(by cases b),λi j a n m h b=>(by cases b),λi a=>BA _⟩
 ·rw[Xv L i k a O,yG,IC,jM c];show(BB 64 (Aw .u8 0)++[Ad iD 0 0,Aw gZ 0]).toArray[k]?=_;rw[List.getElem?_toArray,DK (by simpa using c),IC,jM c];rfl
 ·rw[Xv L i 64 a U];rfl
 ·rw[Xv L i 65 a U];rfl
def Ahv(L:Nat)(w:jD)(A:1<=L)(z:L<=1024):
 Calls prog 16 #[fP gZ (L:Int)] w λm w'=>∃d g,m=gY (ptr0 d)/\
  CY w' d L (λ_=>0) M0 (λ_=>0) g (λ_=>iD)/\w.heap.size<=d/\w.heap.size<=g/\η w w'/\w'.cell? (Δ d 3)=iC (fP gZ 0):=by
 obtain⟨v,c,p,r,s,t,u⟩:∃a c,prog.info? 208=iC a/\a.zero=iC c/\a.size=66/\a.bytes=96/\c.cells=Nz:=by
  have h:=Tryz.yF;cases k:prog.info? 208 with
  |none=>rw[k]at h;cases h
  |some a=>
   rw[k]at h;cases f:a.zero with
   |none=>simp[f]at h
   |some c=>simp[f]at h;exact⟨a,c,rfl,f,h.2.1,h.2.2,h.1⟩
 go_enter func16,ntmps16
 go_wp2_with(at_make;refine wpList_make_full _ rfl _ _ 81 rfl w.heap.size 208 v c 66 underlying81 p r s gZ gZ _ _ L rfl rfl rfl rfl (by rw[t];omega) (by unfold maxLen;omega) (Ae _) ?_;intro b e j)
 have n:η w b:=(Below.refl _ _).grown j (Ae _) Θ;rw[u]at e;have i:b.heap[w.heap.size]?=iC (iy (madeCells Nz (L*66)) 208 (0,0)):=by
  rcases e.2 with⟨h,_⟩|⟨g,x,y,h,_,o,_,_,B,l⟩
  ·cases h
  ·simp only[Value.slice.injEq,Option.some.injEq,Addr.mk.injEq,and_true,true_and]at h;obtain⟨rfl,rfl⟩:=h;rw[List.take_of_length_le (by rw[Array.length_toList];omega)]at l;rw[o,Array.toList_inj.1 l]
 have q:w.heap.size<b.heap.size:=(AA.1 i).1;clear j e;go_ret;refine⟨b.heap.size,w.heap.size,rfl,CY.made (heap_alloc_new b _) O ((χ b _ q).trans i),O,Ae _,n.alloc O _,CB.cell (heap_alloc_new b _) 3⟩
def Al6(L:Nat)(w:jD)(k:1<=L)(j:L<=1024):
 Calls prog 16 #[fP gZ (L:Int)] w λa w'=>∃d g,a=gY (ptr0 d)/\
  CY w' d L (λ_=>0) M0 (λ_=>0) g (λ_=>iD)/\w.heap.size<=d/\w.heap.size<=g/\η w w':=by
 refine(Ahv L w k j).mono ?_;rintro a w'⟨d,g,b,c,e,f,i,_⟩;exact⟨d,g,b,c,e,f,i⟩
def rF(d:Nat)(off x:Int)(w:jD):
 Calls prog 66 #[ptr0 d,fP gZ off,fP ig x] w λa w'=>a=gY (.func (.func 103) #[] #[ptr0 w.heap.size,ptr0 (w.heap.size+1),ptr0 (w.heap.size+1+1)])/\
  w'=((w.alloc (iy #[ptr0 d] 26)).alloc (iy #[fP gZ off] 3)).alloc (iy #[fP ig x] 40):=by
 go_enter func66,ntmps66;go_wp2;go_ret;exact⟨rfl,rfl⟩
def rG(d:Nat)(off:Int)(w:jD):
 Calls prog 67 #[ptr0 d,fP gZ off] w λa w'=>a=gY (.func (.func 105) #[] #[ptr0 w.heap.size,ptr0 (w.heap.size+1)])/\
  w'=(w.alloc (iy #[ptr0 d] 26)).alloc (iy #[fP gZ off] 3):=by
 go_enter func67,ntmps67;go_wp2;go_ret;exact⟨rfl,rfl⟩
def Xw(d L g off n:Nat)(i j k:jL)(w:jD)(p:1<=L)(l:L<=1024)(h:CB w d 83 [fD (iC (Φ g)) L L,i,j,k])(o:off%8=0)(m:off+8*n<=L*64):
 Calls prog 65 #[ptr0 d,fP gZ (off:Int),fP gZ (n:Int)] w λe w'=>e=gY (fP gZ 0)/\w=w':=by
 have c:=Tq d L g i j k w l h;have b:=Ac c;obtain⟨a,f⟩:=ε (L*64);rw[<-f]at c b m;have t1:((a:Int)==0)=jw:=ζ O;have t2:decide ((off:Int)<0)=jw:=decide_eq_false O;have t4:((off:Int)%8 !=0)=jw:=by
  have:(off:Int)%8=0:=O;rw[this];rfl
 have t5:decide ((n:Int)<0)=jw:=decide_eq_false O;have t6:decide (((a:Int) -(off:Int))/8<(n:Int))=jw:=decide_eq_false O;have q:a<=65536:=O;have r:off<=a:=O;clear c h;go_enter func65,ntmps65
 go_wp2_with fail
 refine b.mono ?_;rintro e w'⟨rfl,rfl⟩;clear b f
 go_wp2_with fail
 go_ret;exact⟨rfl,rfl⟩
def af{d:Int->jD->Prop}(e f g:Nat)(D:jL)(off x:Int)(w:jD)(h1:w.cell? (Φ e)=iC D)(k:∃c,D=.pointer c)(h2:w.cell? (Φ f)=iC (fP gZ off))(h3:w.cell? (Φ g)=iC (fP ig x))
 (i:Calls prog 104 #[D,fP gZ off,fP ig x] w λb w'=>∃a:Int,b=gY (fP gZ a)/\d a w'):
 Calls prog 103 #[ptr0 e,ptr0 f,ptr0 g] w λb w'=>∃a:Int,b=gY (fP gZ a)/\d a w':=by
 obtain⟨c,rfl⟩:=k;have j:=Ac i;clear i;go_enter func103,ntmps103
 go_wp2_with fail
 refine j.mono ?_;rintro b w'⟨a,rfl,l⟩
 go_wp2_with fail
 go_ret;exact⟨a,rfl,l⟩
def ag{d:Int->jD->Prop}(e f:Nat)(D:jL)(off:Int)(w:jD)(h1:w.cell? (Φ e)=iC D)(j:∃c,D=.pointer c)(h2:w.cell? (Φ f)=iC (fP gZ off))
 (g:Calls prog 106 #[D,fP gZ off] w λb w'=>∃a:Int,b=gY (fP gZ a)/\d a w'):
 Calls prog 105 #[ptr0 e,ptr0 f] w λb w'=>∃a:Int,b=gY (fP gZ a)/\d a w':=by
 obtain⟨c,rfl⟩:=j;have i:=Ac g;clear g;go_enter func105,ntmps105
 go_wp2_with fail
 refine i.mono ?_;rintro b w'⟨a,rfl,k⟩
 go_wp2_with fail
 go_ret;exact⟨a,rfl,k⟩
def iY(A:Option Addr)(n c:Nat)(d:Nat->Nat)(i e:Nat->Array jL)(b:Nat->jD->Prop)(o:jD->Prop)(w:jD)(G:n<=1000000)(p:b 0 w)
 (t:∀a,a<n->∀W,(callFunc (d a) (i a++e a)).run prog W=.ok (.enter (d a) (i a++e a)) W)
 (u:∀a W,b a W->Rd W A n ((Ep n).map λa=>Ar4 (.func (d a)) (i a) (e a)))
 (v:∀a W,a<n->b a W->Calls prog (d a) (i a++e a) W λf w'=>∃c:Int,f=gY (fP gZ c)/\((c=0/\b (a+1) w')\/(c=12/\o w'))):
 Calls prog 68 #[fD A n c] w λf w'=>∃c:Int,f=gY (fP gZ c)/\((c=0/\b n w')\/(c=12/\o w')):=by
 have y:=Ac u;have z:=Ac v;have x:=Ac t;clear u v t;go_enter func68,ntmps68
 go_wp2_with fail
 go_loopw [8](λm wr=>∃a:Nat,a<=n/\m=fP gZ a/\b a wr)(λm _=>n-(intOf m).toNat)
 case atStart=>exact⟨0,BA _,rfl,p⟩
 case round=>
  obtain⟨a,F,rfl,k⟩:=hrel;by_cases g:a<n
  ·obtain⟨E,H,rfl,hb,s⟩:=(y a wr k).2 O;have l:=s a g;simp only[DJ,List.getElem?_range g,Ez]at l;have q:=z a wr g k;have j:=Ac q;have r:=x a g;clear s q p
   go_wp2_with fail
   refine j.mono ?_;rintro f I⟨c,rfl,⟨rfl,B⟩|⟨rfl,C⟩⟩
   ·clear j l r
    go_wp2_with fail
    go_roundw
    case rel=>exact⟨a+1,O,by go_num,B⟩
    case measure=>simp[intOf];omega
   ·clear j l r
    go_wp2_with fail
    go_ret;exact⟨12,rfl,.inr ⟨rfl,C⟩⟩
  ·have D:a=n:=O;subst D
   go_wp2_with fail
   go_ret;exact⟨0,rfl,.inl ⟨rfl,k⟩⟩
def Dv(w0:jD)(d L g:Nat)(b:Nat->Option Nat)(ws:Nat->UInt64)(len:Mode)(mark:Nat->Nat)(W:jD):Prop:=
 ∃hb,(∀a,Fe d L g hb a->Fe d L g b a\/w0.heap.size<=a)/\CY W d L ws len mark g hb/\Touch (Fe d L g b) w0 W
def Dv.start{w0 W:jD}{d L g:Nat}{a:Nat->Option Nat}{ws:Nat->UInt64}{len:Mode}{mark:Nat->Nat}(h:CY w0 d L ws len mark g a)(hb:η w0 W):Dv w0 d L g a ws len mark W:=
 ⟨a,λ_ h=>.inl h,h.below hb,Touch.of_below hb⟩
def Ahw{w0 W:jD}{d L g:Nat}{o:Nat->Option Nat}{ws:Nat->UInt64}{len:Mode}{mark:Nat->Nat}(h:Dv w0 d L g o ws len mark W)(n:L<=1024)(s:len.lf≠0)(j:Nat)(x:UInt64)(q:j<8*L)(w:len (j/8)<=1000000):
 Calls prog 104 #[ptr0 d,fP gZ ((8*j:Nat):Int),fP ig (x.toNat:Int)] W λb w'=>b=gY (fP gZ 0)/\
  ∃m:Mode,(m=len\/m=len.note (j/8) (8*(j%8),ws j))/\Dv w0 d L g o (λa=>if a=j then x else ws a) m.tick mark w':=by
 obtain⟨hb,f,r,k⟩:=h;by_cases p:ws j=x
 ·subst p;refine(yA d L ws len mark g hb j W n s r q).mono ?_;rintro b w'⟨rfl,i,l⟩;refine⟨rfl,len,.inl rfl,hb,f,?_,k.trans l (λc h=>f c h)⟩;rw[show(λa=>if a=j then ws j else ws a)=ws by funext a;by_cases b:a=j<;>simp[b]];exact i
 ·refine(Adx d L ws len mark g hb j x W n s r q p w).mono ?_;rintro b w'⟨rfl,t,e,i,l⟩;refine⟨rfl,_,.inr rfl,_,λc u=>?_,i,k.trans l (λc h=>f c h)⟩;rcases u with h|h|⟨a,v,h⟩
  ·exact .inl (.inl h)
  ·exact .inl (.inr (.inl h))
  ·change(if a=j/8 then iC t else hb a)=iC c at h;by_cases b:a=j/8
   ·rw[jM b]at h;injection h with h
    subst h;rcases e with e|e
    ·exact f _ (.inr (.inr ⟨j/8,O,e⟩))
    ·exact .inr (Bq k.size e)
   ·rw[ku b]at h;exact f _ (.inr (.inr ⟨a,v,h⟩))
def Ahx{w0 W:jD}{d L g:Nat}{b:Nat->Option Nat}{ws:Nat->UInt64}{len:Mode}{mark:Nat->Nat}(h:Dv w0 d L g b ws len mark W)(i:L<=1024)(p:len.lf≠0)(off:Nat)(j:off<64*L)(k:len (off/64)<=1000001):
 Calls prog 106 #[ptr0 d,fP gZ (off:Int)] W λa w'=>a=gY (fP gZ 0)/\
  Dv w0 d L g b ws len.tick (λe=>if e=off/64 then len (off/64)+1 else mark e) w':=by
 obtain⟨hb,c,l,n⟩:=h;refine(Ady d L ws len mark g hb off W i p l j k).mono ?_;rintro a w'⟨rfl,m,o⟩;exact⟨rfl,hb,c,m,n.trans o (λf h=>c f h)⟩
def Ahy{w0 W:jD}{d L g:Nat}{e:Nat->Option Nat}{ws:Nat->UInt64}{len:Mode}{mark:Nat->Nat}(h:Dv w0 d L g e ws len mark W)(i:L<=1024)(j:0<L)(s:len.lf≠0)
 (n:∀a,a<L->mark a=0\/mark a=len a+1)(m:∀a,a<L->len a<=1000000):
 Calls prog 69 #[ptr0 d] W λb w'=>b=gY (fP gZ 0)/\
  Dv w0 d L g e ws (U9 L len mark).tick (Ny L mark) w':=by
 obtain⟨hb,f,o,q⟩:=h;refine(Ad1 d L ws len mark g hb W i j s o n m).mono ?_;rintro b w'⟨rfl,p,r⟩;refine⟨rfl,_,λc k=>?_,p,q.trans r (λc h=>f c h)⟩;rcases k with h|h|⟨a,l,h⟩
 ·exact .inl (.inl h)
 ·exact .inl (.inr (.inl h))
 ·unfold LZ at h;by_cases b:a<L/\mark a≠0
  ·rw[jM b]at h;cases h
  ·rw[ku b]at h;exact f _ (.inr (.inr ⟨a,l,h⟩))
def Dv.mG{w0 W:jD}{d L g:Nat}{b:Nat->Option Nat}{ws:Nat->UInt64}{len:Mode}{mark:Nat->Nat}(h:Dv w0 d L g b ws len mark W)(c:len.lf=0):∃f i,CB W d 83 [fD (iC (Φ g)) L L,.bool true,f,i]:=by
 obtain⟨hb,j,e,k⟩:=h;obtain⟨l,a⟩:=e.box;rw[decide_eq_true c]at a;exact⟨_,_,a⟩
def Ad2(ws:Nat->UInt64)(j:Nat):BX ws j []=ws:=by
 funext i;unfold BX;rw[ku Θ]
def yH(ws:Nat->UInt64)(j:Nat)(xs:List UInt64)(k:Nat)(b:k<xs.length):(λa=>if a=j+k then xs[k]else BX ws j (xs.take k) a)=BX ws j (xs.take (k+1)):=by
 funext a;unfold BX;simp only[Ed,NW (Nat.le_of_lt b),NW (show k+1<=xs.length from b),Bg,Di];by_cases c:a=j+k
 ·subst c;rw[jM rfl,jM O,jM O,Si,Ah b];rfl
 ·rw[ku c];by_cases h:j<=a/\a<j+k
  ·rw[jM h,jM O,jM O,jM O]
  ·rw[ku h,ku O]
def yI(ws:Nat->UInt64)(j:Nat)(xs:List UInt64)(k q:Nat):BX ws j (xs.take k) q=ws q\/BX ws j (xs.take k) q=BX ws j xs q:=by
 unfold BX;simp only[Ed,Bg,Di];by_cases h:j<=q/\q<j+min k xs.length
 ·right;rw[jM h,jM O,jM O]
 ·left;rw[ku h]
def Ad3(ws:Nat->UInt64)(j:Nat)(x:UInt64):BX ws j [x]=Dt ws j x:=by
 funext i;unfold BX Dt;by_cases a:i=j
 ·subst a;rw[jM Θ,jM rfl,U5];rfl
 ·rw[ku (by simp;omega),ku a]
def fO(lf:Int)(k:Nat):Int:=if lf<0 then lf else lf-k
def Ahz(lf:Int):fO lf 0=lf:=by unfold fO;split<;>omega
def Al7(k:Nat):fO (-1) k= -1:=rfl
def ai{len:Mode}{lf:Int}{k:Nat}(h:len.lf=fO lf k)(b:len.lf≠0)(c:lf<0\/(k:Int)<=lf):len.tick.lf=fO lf (k+1)/\(lf<0\/((k+1:Nat):Int)<=lf):=by
 show(if 0<len.lf then len.lf-1 else len.lf)=_/\_;rw[h]at b⊢;unfold fO at b⊢;by_cases a:lf<0
 ·simp only[jM a];rw[ku O];exact⟨rfl,.inl a⟩
 ·simp only[ku a]at b⊢;rw[jM O];exact⟨O,.inr O⟩
def aj(ws:Nat->UInt64)(j n:Nat)(len:Mode):Prop:=∀b,∀c∈len.YR b,∃a,a<8/\c.1=8*a/\j<=8*b+a/\8*b+a<j+n/\c.2=ws (8*b+a)
def yJ(ws:Nat->UInt64)(j n:Nat)(lf:Int):aj ws j n (MU lf):=λ_ _ h=>nomatch h
def Ah0(lf:Int)(W0:jD)(d L g:Nat)(hb:Nat->Option Nat)(ws:Nat->UInt64)(j:Nat)(xs:List UInt64)(N:Nat)(W:jD):Prop:=
 0<=lf/\lf<N/\∃(a:Mode)(c:Nat->UInt64)(mark:Nat->Nat),a.lf=0/\(∀e,a e<=1000000)/\aj ws j xs.length a/\(∀b,c b=ws b\/c b=BX ws j xs b)/\Dv W0 d L g hb c a mark W
def Wrote(lf:Int)(N:Nat)(W0:jD)(d L g:Nat)(hb:Nat->Option Nat)(ws:Nat->UInt64)(j:Nat)(xs:List UInt64)(c:Int)(W:jD):Prop:=
 (c=0/\(lf<0\/(N:Int)<=lf)/\Dv W0 d L g hb (BX ws j xs) (MU (fO lf N)) (λ_=>0) W)\/(c=12/\Ah0 lf W0 d L g hb ws j xs N W)
def allI(lf:Int)(W0:jD)(d L g:Nat)(hb:Nat->Option Nat)(ws:Nat->UInt64)(j:Nat)(xs:List UInt64)(m k:Nat)(W:jD):Prop:=
 (lf<0\/(k:Int)<=lf)/\
 if k<=xs.length then∃a:Mode,a.lf=fO lf k/\(∀b,a b<=k)/\aj ws j xs.length a/\Dv W0 d L g hb (BX ws j (xs.take k)) a (λ_=>0) W
 else if k<=xs.length+m then∃a:Mode,a.lf=fO lf k/\(∀b,a b<=xs.length)/\aj ws j xs.length a/\Dv W0 d L g hb (BX ws j xs) a (λb=>if j/8<=b/\b<j/8+(k-xs.length)then a b+1 else 0) W
 else Dv W0 d L g hb (BX ws j xs) (MU (fO lf k)) (λ_=>0) W
def yK{lf:Int}{W0:jD}{d L g:Nat}{hb:Nat->Option Nat}{ws:Nat->UInt64}{j:Nat}{xs:List UInt64}{m k:Nat}{W:jD}(h:allI lf W0 d L g hb ws j xs m k W):Touch (Fe d L g hb) W0 W:=by
 have h:=h.2;split at h
 ·obtain⟨_,_,_,_,_,_,_,a⟩:=h;exact a
 ·split at h
  ·obtain⟨_,_,_,_,_,_,_,a⟩:=h;exact a
  ·obtain⟨_,_,_,a⟩:=h;exact a
def ak{lf:Int}{k N:Nat}(h:fO lf k=0)(a:k<N):0<=lf/\lf<N:=by
 unfold fO at h;split at h<;>omega
section
variable{lf:Int}{W0 W:jD}{d L g:Nat}{hb:Nat->Option Nat}{ws:Nat->UInt64}{j:Nat}{xs:List UInt64}{m:Nat}
def Ad4(s:L<=1024)(K:j+xs.length<=8*L)(_:∀a,j<=a->a<j+xs.length->j/8<=a/8/\a/8<j/8+m){k:Nat}(D:k<xs.length)(M:xs.length<=100000)(h:allI lf W0 d L g hb ws j xs m k W):
 Calls prog 104 #[ptr0 d,fP gZ ((8*(j+k):Nat):Int),fP ig (xs[k].toNat:Int)] W λe w'=>∃c:Int,e=gY (fP gZ c)/\((c=0/\allI lf W0 d L g hb ws j xs m (k+1) w')\/(c=12/\Ah0 lf W0 d L g hb ws j xs (xs.length+m+1) w')):=by
 obtain⟨E,h⟩:=h;rw[jM O]at h;obtain⟨l,r,f,o,p⟩:=h;by_cases i:l.lf=0
 ·obtain⟨I,J,C⟩:=p.mG i;refine(ZV d L g (8*(j+k)) _ I J W O s C).mono ?_;rintro e w'⟨rfl,rfl⟩;obtain⟨v,w⟩:=ak (N:=xs.length+m+1) (r.symm.trans i) O;exact⟨12,rfl,.inr ⟨rfl,v,w,l,_,_,i,λa=>Ω (f a),o,λH=>yI ws j xs k H,p⟩⟩
 ·refine(Ahw p s i (j+k) xs[k] O (Ω (f ((j+k)/8)))).mono ?_;rintro e w'⟨rfl,n,u,t⟩;rw[yH ws j xs k D]at t;have G:BX ws j (xs.take k) (j+k)=ws (j+k):=by unfold BX;rw[ku (by simp;omega)]
  rw[G]at u;have F:n.lf=l.lf/\(∀a,n a<=k+1)/\aj ws j xs.length n:=by
   rcases u with rfl|rfl
   ·exact⟨rfl,λa=>Ω (f a),o⟩
   ·refine⟨rfl,λa=>?_,λa c b=>?_⟩
    ·rw[Mode.Ti];split
     ·have:=f ((j+k)/8);omega
     ·have:=f a;omega
    ·change c∈(if a=(j+k)/8 then l.YR ((j+k)/8)++[(8*((j+k)%8),ws (j+k))]else l.YR a)at b;split at b
     ·rename_i e;rcases List.mem_append.1 b with b|b
      ·rw[<-e]at b;exact o a c b
      ·rw[List.mem_singleton]at b;subst b;have z:8*a+(j+k)%8=j+k:=O;exact⟨(j+k)%8,O,rfl,O,O,by show ws (j+k)=_;rw[z]⟩
     ·exact o a c b
  obtain⟨q,A,B⟩:=F;obtain⟨x,y⟩:=ai (len:=n) (q.trans r) (by rw[q];exact i) E;refine⟨0,rfl,.inl ⟨rfl,y,?_⟩⟩;rw[jM O];exact⟨n.tick,x,A,B,t⟩
def Ad5(q:L<=1024)(H:j+xs.length<=8*L)(C:∀t,t<m->8*(j/8+t)<j+xs.length){t:Nat}(D:t<m)(J:xs.length<=100000)(off:Nat)(y:off/64=j/8+t)(h:allI lf W0 d L g hb ws j xs m (xs.length+t) W):
 Calls prog 106 #[ptr0 d,fP gZ (off:Int)] W λe w'=>∃c:Int,e=gY (fP gZ c)/\((c=0/\allI lf W0 d L g hb ws j xs m (xs.length+t+1) w')\/(c=12/\Ah0 lf W0 d L g hb ws j xs (xs.length+m+1) w')):=by
 have I:=C t D;obtain⟨B,h⟩:=h;have z:∃b:Mode,b.lf=fO lf (xs.length+t)/\(∀a,b a<=xs.length)/\aj ws j xs.length b/\Dv W0 d L g hb (BX ws j xs) b (λa=>if j/8<=a/\a<j/8+t then b a+1 else 0) W:=by
  by_cases i:t=0
  ·subst i;rw[jM O]at h;obtain⟨b,G,r,v,c⟩:=h;refine⟨b,G,r,v,?_⟩;rw[Nat.add_zero,List.take_length]at c;have:(λa=>if j/8<=a/\a<j/8+0 then b a+1 else 0)=λ_=>0:=by funext a;rw[ku O]
   rw[this];exact c
  ·rw[ku O,jM O,Si]at h;exact h
 obtain⟨b,i,l,p,n⟩:=z;by_cases f:b.lf=0
 ·obtain⟨E,F,A⟩:=n.mG f;refine(ZW d L g off E F W O q A).mono ?_;rintro e w'⟨rfl,rfl⟩;obtain⟨s,u⟩:=ak (N:=xs.length+m+1) (i.symm.trans f) O;exact⟨12,rfl,.inr ⟨rfl,s,u,b,_,_,f,λa=>Ω (l a),p,λK=>.inr rfl,n⟩⟩
 ·refine(Ahx n q f off O (Ω (l (off/64)))).mono ?_;rintro e w'⟨rfl,o⟩;obtain⟨w,x⟩:=ai i f B;refine⟨0,rfl,.inl ⟨rfl,x,?_⟩⟩;rw[ku O,jM O];refine⟨b.tick,w,l,p,?_⟩;rw[y]at o;have:(λk=>if k=j/8+t then b (j/8+t)+1 else if j/8<=k/\k<j/8+t then b k+1 else 0)=(λa=>if j/8<=a/\a<j/8+(xs.length+t+1-xs.length)then b a+1 else 0):=by
   funext a;by_cases e:a=j/8+t
   ·subst e;rw[jM rfl,jM O]
   ·rw[ku e];by_cases h:j/8<=a/\a<j/8+t
    ·rw[jM h,jM O]
    ·rw[ku h,ku O]
  rw[this]at o;exact o
def Ad6(o:L<=1024)(x:0<L)(G:xs.length<=100000)(E:0<m)(F:j/8+m<=L)(A:∀a,j<=a->a<j+xs.length->j/8<=a/8/\a/8<j/8+m)(h:allI lf W0 d L g hb ws j xs m (xs.length+m) W):
 Calls prog 69 #[ptr0 d] W λb w'=>∃e:Int,b=gY (fP gZ e)/\((e=0/\allI lf W0 d L g hb ws j xs m (xs.length+m+1) w')\/(e=12/\Ah0 lf W0 d L g hb ws j xs (xs.length+m+1) w')):=by
 obtain⟨z,h⟩:=h;rw[ku O,jM O,Si]at h;obtain⟨c,i,l,n,k⟩:=h;by_cases f:c.lf=0
 ·obtain⟨C,D,w⟩:=k.mG f;refine(ZX d L g C D W O o w).mono ?_;rintro b w'⟨rfl,rfl⟩;obtain⟨q,r⟩:=ak (N:=xs.length+m+1) (i.symm.trans f) O;exact⟨12,rfl,.inr ⟨rfl,q,r,c,_,_,f,λa=>Ω (l a),n,λI=>.inr rfl,k⟩⟩
 ·refine(Ahy k o x f (λa _=>?_) (λa _=>Ω (l a))).mono ?_
  ·by_cases b:j/8<=a/\a<j/8+m
   ·right;show(if _ then _ else _)=_;rw[jM b]
   ·left;show(if _ then _ else _)=_;rw[ku b]
  rintro b w'⟨rfl,p⟩;obtain⟨s,t⟩:=ai i f z;refine⟨0,rfl,.inl ⟨rfl,t,?_⟩⟩;rw[ku O,ku O];have u:(U9 L c (λa=>if j/8<=a/\a<j/8+m then c a+1 else 0)).tick=MU (fO lf (xs.length+m+1)):=by
   rw[<-s];show Mode.mk (λa=>if a<L/\(λa=>if j/8<=a/\a<j/8+m then c a+1 else 0) a≠0 then[]else c.YR a) _=Mode.mk (λ_=>[]) _;congr 1;funext a;by_cases b:j/8<=a/\a<j/8+m
   ·rw[jM ⟨O,by show(if _ then _ else _)≠0;rw[jM b];omega⟩]
   ·rw[ku (by rintro⟨_,i⟩;exact i (ku b))];cases y:c.YR a with
    |nil=>rfl
    |cons e H=>
     obtain⟨B,t1,t2,t3,t4,t5⟩:=n a e (by rw[y];exact Bo ..);have:=A (8*a+B) t3 t4;exact absurd (show j/8<=a/\a<j/8+m by omega) b
  have v:Ny L (λa=>if j/8<=a/\a<j/8+m then c a+1 else 0)=λ_=>0:=by
   funext a;unfold Ny;by_cases b:a<L
   ·rw[jM b]
   ·rw[ku b];exact ku O
  rw[u,v]at p;exact p
def Dv.back{w:jD}{a:Nat->UInt64}{len:Mode}{mark:Nat->Nat}(h:Dv W0 d L g hb a len mark W)(c:η w W0):Dv w d L g hb a len mark W:=by
 obtain⟨f,i,j,k⟩:=h;exact⟨f,λb h=>(i b h).imp id (λe=>Bq c.size e),j,(Touch.of_below c).trans k (λb h=>.inl h)⟩
def Wrote.back{w:jD}{N:Nat}{c:Int}(h:Wrote lf N W0 d L g hb ws j xs c W)(f:η w W0):Wrote lf N w d L g hb ws j xs c W:=by
 rcases h with⟨a,b,e⟩|⟨a,b,e,p,i,mark,k,l,m,n,o⟩
 ·exact .inl ⟨a,b,e.back f⟩
 ·exact .inr ⟨a,b,e,p,i,mark,k,l,m,n,o.back f⟩
def Wrote.up{N:Nat}{c:Int}(h:Wrote (-1) N W0 d L g hb ws j xs c W):c=0/\Dv W0 d L g hb (BX ws j xs) M0 (λ_=>0) W:=by
 rcases h with⟨a,b,e⟩|⟨_,b,_⟩
 ·exact⟨a,e⟩
 ·omega
end
def We(l:Array jL)(W:jD):(callFunc 103 l).run prog W=.ok (.enter 103 l) W:=by
 simp[callFunc,func103,Tryz.f103]
def Wh(l:Array jL)(W:jD):(callFunc 105 l).run prog W=.ok (.enter 105 l) W:=by
 simp[callFunc,func105,Tryz.f105]
def Wi(l:Array jL)(W:jD):(callFunc 69 l).run prog W=.ok (.enter 69 l) W:=by
 simp[callFunc,func69,Tryz.f69]
structure Stp(d:Nat)(own:Nat->Prop)(j m:Nat)(xs:List UInt64)(W0:jD)(I:Nat->jD->Prop)(J:jD->Prop):Prop where
 start:I 0 W0
 touch:∀k W,I k W->Touch own W0 W
 store:∀k(hk:k<xs.length)W,I k W->Calls prog 104 #[ptr0 d,fP gZ ((8*(j+k):Nat):Int),fP ig (xs[k].toNat:Int)] W λe w'=>∃c:Int,e=gY (fP gZ c)/\((c=0/\I (k+1) w')\/(c=12/\J w'))
 flush:∀t,t<m->∀off:Nat,off/64=j/8+t->∀W,I (xs.length+t) W->Calls prog 106 #[ptr0 d,fP gZ (off:Int)] W λe w'=>∃c:Int,e=gY (fP gZ c)/\((c=0/\I (xs.length+t+1) w')\/(c=12/\J w'))
 fence:∀W,I (xs.length+m) W->Calls prog 69 #[ptr0 d] W λe w'=>∃c:Int,e=gY (fP gZ c)/\((c=0/\I (xs.length+m+1) w')\/(c=12/\J w'))
def Ab5{lf:Int}{W0:jD}{d L g:Nat}{hb:Nat->Option Nat}{ws:Nat->UInt64}{j:Nat}{xs:List UInt64}{m:Nat}(l:0<L)(b:L<=1024)(h:CY W0 d L ws (MU lf) (λ_=>0) g hb)(f:j+xs.length<=8*L)(c:xs.length<=100000)(n:0<m)(p:j/8+m<=L)
 (i:∀a,j<=a->a<j+xs.length->j/8<=a/8/\a/8<j/8+m)(o:∀k,k<m->8*(j/8+k)<j+xs.length):Stp d (Fe d L g hb) j m xs W0 (allI lf W0 d L g hb ws j xs m) (Ah0 lf W0 d L g hb ws j xs (xs.length+m+1))where
 start:=by
  refine⟨O,?_⟩;rw[jM (BA _)];refine⟨MU lf,(Ahz lf).symm,λ_=>Ae _,yJ _ _ _ _,?_⟩;rw[List.take_zero,Ad2];exact Dv.start h (Below.refl _ _)
 touch _ _ hi:=yK hi
 store _ hk _ hi:=Ad4 b f i hk c hi
 flush _ ht off e _ hi:=Ad5 b f o ht c off e hi
 fence _ hi:=Ad6 b l c n p i hi
def rH{W0:jD}{d L g:Nat}{a b:jL}(f:0<L)(e:L<=1024)(c:CB W0 d 83 [fD (iC (Φ g)) L L,.bool true,a,b])(own:Nat->Prop)(j m:Nat)(xs:List UInt64):Stp d own j m xs W0 (λi W=>i=0/\W=W0) (λW=>W=W0)where
 start:=⟨rfl,rfl⟩
 touch _ _ hi:=hi.2▸Touch.refl _ _
 store i _ W hi:=by
  obtain⟨_,rfl⟩:=hi;refine(ZV d L g (8*(j+i)) _ a b W f e c).mono ?_;rintro k w'⟨rfl,rfl⟩;exact⟨12,rfl,.inr ⟨rfl,rfl⟩⟩
 flush _ _ off _ W hi:=by
  obtain⟨_,rfl⟩:=hi;refine(ZW d L g off a b W f e c).mono ?_;rintro k w'⟨rfl,rfl⟩;exact⟨12,rfl,.inr ⟨rfl,rfl⟩⟩
 fence W hi:=by
  obtain⟨_,rfl⟩:=hi;refine(ZX d L g a b W f e c).mono ?_;rintro k w'⟨rfl,rfl⟩;exact⟨12,rfl,.inr ⟨rfl,rfl⟩⟩
def Al8{own:Nat->Prop}{o:Nat->jD->Prop}{p:jD->Prop}(d j:Nat)(x:UInt64)(w W0:jD)(A:∀b,w.heap.size<=b->¬own b)(e:Stp d own j 1 [x] W0 o p)
 (f g i l m s:Nat)(t:TypeId)(I:w.heap.size<=f)(J:w.heap.size<=g)(K:w.heap.size<=i)(L:w.heap.size<=l)(M:w.heap.size<=m)(P:w.heap.size<=s)
 (C:W0.cell? (Φ f)=iC (ptr0 d))(D:W0.cell? (Φ g)=iC (fP gZ ((8*j:Nat):Int)))(E:W0.cell? (Φ i)=iC (fP ig (x.toNat:Int)))
 (F:W0.cell? (Φ l)=iC (ptr0 d))(G:W0.cell? (Φ m)=iC (fP gZ ((8*j:Nat):Int)))
 (u:W0.heap[s]?=iC (iy #[.func (.func 103) #[] #[ptr0 f,ptr0 g,ptr0 i],.func (.func 105) #[] #[ptr0 l,ptr0 m],.func (.func 69) #[ptr0 d] #[]] t (0,0))):
 Calls prog 68 #[fD (iC (Φ s)) 3 3] W0 λH w'=>∃q:Int,H=gY (fP gZ q)/\((q=0/\o 3 w')\/(q=12/\p w')):=by
 have n:∀{k W},o k W->∀(b:Nat)(v:jL),w.heap.size<=b->W0.cell? (Φ b)=iC v->W.cell? (Φ b)=iC v:=λc b v N y=>
  (BI (a:=Φ b) ((e.touch _ _ c).block b (Gu W0 (Φ b) y) (A b N))).trans y
 refine(iY _ 3 3 (λk=>if k=0 then 103 else if k=1 then 105 else 69)
  (λk=>if k=2 then#[ptr0 d]else#[])
  (λk=>if k=0 then#[ptr0 f,ptr0 g,ptr0 i]else if k=1 then#[ptr0 l,ptr0 m]else#[])
  o p W0 U e.start ?_ ?_ ?_)
 ·intro k r W
  match k,r with
  |0,_=>exact We _ W
  |1,_=>exact Wh _ W
  |2,_=>exact Wi _ W
 ·intro k W c;have z:=((e.touch _ _ c).block s (AA.1 u).1 (A s P)).trans u;refine⟨rfl,λ_=>⟨s,0,rfl,(AA.1 z).1,λB Q=>?_⟩⟩;rw[Nat.zero_add,cell_of_row W s B _ t (0,0) z]
  match B,Q with
  |0,_=>rfl
  |1,_=>rfl
  |2,_=>rfl
 ·intro k W r c
  match k,r with
  |0,_=>exact af f g i _ _ _ W (n c _ _ I C) ⟨_,rfl⟩ (n c _ _ J D) (n c _ _ K E) (e.store 0 Θ W c)
  |1,_=>
   exact ag l m _ _ W (n c _ _ L F) ⟨_,rfl⟩ (n c _ _ M G) (e.flush 0 U (8*j) O W c)
  |2,_=>exact e.fence W c
def Ab6{own:Nat->Prop}{e:jD->Nat->jD->Prop}{f:jD->jD->Prop}(d j:Nat)(x:UInt64)(w:jD)(n:∀a,own a->a<w.heap.size)(m:∀W0,η w W0->Stp d own j 1 [x] W0 (e W0) (f W0)):
 Calls prog 142 #[ptr0 d,fP gZ ((8*j:Nat):Int),fP ig (x.toNat:Int)] w λc w'=>∃W0,η w W0/\∃b:Int,c=gY (fP gZ b)/\((b=0/\e W0 3 w')\/(b=12/\f W0 w')):=by
 have l:=Ac (λa(q:w.heap.size<=a)(r:own a)=>xH _ (Be (n a r) q));have k:=Ac m;clear n m;go_enter func142,ntmps142
 go_wp2_with fail
 refine(rF d _ _ w).mono ?_;rintro c w'⟨rfl,rfl⟩
 go_wp2_with fail
 refine(rG d _ _).mono ?_;rintro c w'⟨rfl,rfl⟩
 go_wp2_with fail
 have i:=((((((Below.refl w.heap.size w).alloc (Ae _) (iy #[ptr0 d] 26)).alloc Θ (iy #[fP gZ (8*(j:Int))] 3)).alloc (by simp;omega) (iy #[fP ig (x.toNat:Int)] 40)).alloc (by simp;omega) (iy #[ptr0 d] 26)).alloc (by simp;omega) (iy #[fP gZ (8*(j:Int))] 3)).alloc (by simp;omega)
  (iy #[.func (.func 103) #[] #[ptr0 w.heap.size,ptr0 (w.heap.size+1),ptr0 (w.heap.size+1+1)],.func (.func 105) #[] #[ptr0 (w.heap.size+1+1+1),ptr0 (w.heap.size+1+1+1+1)],.func (.func 69) #[ptr0 d] #[]] 133)
 refine(Al8 d j x w _ l.out (k _ i) w.heap.size (w.heap.size+1) (w.heap.size+1+1) (w.heap.size+1+1+1) (w.heap.size+1+1+1+1) (w.heap.size+1+1+1+1+1) 133 O O O O O O ((Dc _ _ _ (by first|(simp;done)|(simp;omega))).trans<|((Dc _ _ _ (by first|(simp;done)|(simp;omega))).trans<|((Dc _ _ _ (by first|(simp;done)|(simp;omega))).trans<|((Dc _ _ _ (by first|(simp;done)|(simp;omega))).trans<|((Dc _ _ _ (by first|(simp;done)|(simp;omega))).trans<|by simp))))) (by simp[Dc,J8]) (by simp[Dc,J8]) (by simp[Dc,J8]) (by simp[Dc,J8]) (by rw[show w.heap.size+1+1+1+1+1=((((((w.alloc (iy #[ptr0 d] 26)).alloc (iy #[fP gZ (8*(j:Int))] 3)).alloc (iy #[fP ig (x.toNat:Int)] 40)).alloc (iy #[ptr0 d] 26)).alloc (iy #[fP gZ (8*(j:Int))] 3))).heap.size by simp];exact heap_alloc_new _ _)).mono ?_;rintro c w'⟨b,rfl,o⟩;have p:=Ac (⟨_,i,b,rfl,o⟩:∃W0,η w W0/\∃g:Int,Ending.returned (fP gZ b)=gY (fP gZ g)/\((g=0/\e W0 3 w')\/(g=12/\f W0 w')));clear o i l k
 go_wp2_with fail
 go_ret;exact p.out
def Ah1(lf:Int)(d L g:Nat)(hb:Nat->Option Nat)(ws:Nat->UInt64)(j:Nat)(x:UInt64)(w:jD)(l:0<L)(k:L<=1024)(h:CY w d L ws (MU lf) (λ_=>0) g hb)(n:j<8*L):
 Calls prog 142 #[ptr0 d,fP gZ ((8*j:Nat):Int),fP ig (x.toNat:Int)] w λf w'=>∃b:Int,f=gY (fP gZ b)/\Wrote lf 3 w d L g hb ws j [x] b w':=by
 refine(Ab6 d j x w h.lt (λW0 e=>Ab5 (m:=1) l k (h.below e) (xs:=[x]) (by simp only[Bv,Dx];omega) Θ U O (λp c i=>by simp only[Bv,Dx]at i;omega) (λq o=>by simp only[Bv,Dx];omega))).mono ?_;rintro f w'⟨W0,e,b,rfl,a⟩;refine⟨b,rfl,Wrote.back (W0:=W0) ?_ e⟩;rcases a with⟨c,a⟩|⟨c,a⟩
 ·refine .inl ⟨c,a.1,?_⟩;have:=a.2;rw[ku Θ,ku Θ]at this;exact this
 ·exact .inr ⟨c,a⟩
def Ah2(d L g j:Nat)(x:UInt64)(i k:jL)(_:Nat->Prop)(w:jD)(f:0<L)(e:L<=1024)(c:CB w d 83 [fD (iC (Φ g)) L L,.bool true,i,k]):
 Calls prog 142 #[ptr0 d,fP gZ ((8*j:Nat):Int),fP ig (x.toNat:Int)] w λa w'=>a=gY (fP gZ 12)/\η w w':=by
 refine(Ab6 (own:=λ_=>False) d j x w (λ_ h=>h.elim) (λW0 hb=>rH f e (c.ξ hb) _ j 1 [x])).mono ?_;rintro a w'⟨W0,hb,l,rfl,⟨_,b,_⟩|⟨rfl,rfl⟩⟩
 ·exact absurd b U
 ·exact⟨rfl,hb⟩
def Qv(ws:Nat->UInt64)(j n:Nat):List UInt64:=(Ep n).map λa=>ws (j+a)
def IJ(ws:Nat->UInt64)(j n k:Nat):List UInt64:=(Ep n).map λa=>if a<k then ws (j+a)else 0
def gz(ws:Nat->UInt64)(j n:Nat):IJ ws j n 0=BB n 0:=by
 apply Fz<;>simp[IJ]
def mJ(ws:Nat->UInt64)(j n:Nat):IJ ws j n n=Qv ws j n:=by
 apply Fz
 ·simp[IJ,Qv]
 ·intro b a c;have:b<n:=by simpa[IJ]using a
  simp[IJ,Qv,this]
def mM(ws:Nat->UInt64)(j n k:Nat):((IJ ws j n k).map wv).set k (wv (ws (j+k)))=(IJ ws j n (k+1)).map wv:=by
 rw[<-List.map_set];congr 1;apply Fz
 ·simp[IJ]
 ·intro a c d;rw[Lc];by_cases b:k=a
  ·subst b;rw[jM rfl];simp[IJ]
  ·rw[ku b];have:(a<k+1)=(a<k):=by apply propext;omega
   simp[IJ,this]
def mO(d L:Nat)(ws:Nat->UInt64)(len:Mode)(mark:Nat->Nat)(g:Nat)(hb:Nat->Option Nat)(j n:Nat)(w:jD)(J:0<L)(o:L<=1024)(D:len.lf≠0)(h:CY w d L ws len mark g hb)(M:j+n<=8*L):
 Calls prog 114 #[ptr0 d,fP gZ ((8*j:Nat):Int),fP gZ (n:Int)] w λe w'=>∃x,e=gY (gJ #[x,fP gZ 0])/\
  w'.ownsRow w.heap.size 40 1 x n ((Qv ws j n).map wv)/\η w w':=by
 obtain⟨H,B,E,F,G⟩:=info_parts Tryz.Je.hi;obtain⟨Q,s⟩:=h.box;have m:=Ac (Xw d L g (8*j) n _ _ _ w O o s O O);have y:=Ac h;clear h s;go_enter func114,ntmps114
 go_wp2_with fail
 refine m.mono ?_;rintro e w'⟨rfl,rfl⟩;clear m
 go_wp2_with(at_make;refine wpList_make_full _ rfl _ _ 89 rfl w.heap.size 40 H (fP ig 0) 1 underlying89 B E F gZ gZ _ _ n rfl rfl rfl rfl (by rw[G];omega) (by unfold maxLen;omega) (Ae _) ?_;intro I f t)
 rw[Me,<-gz ws j n]at f;have q:η w I:=(Below.refl _ _).grown t (Ae _) Θ;clear t
 go_loopw [24](λk wr=>∃a:Nat,a<=n/\k=fP gZ a/\wr.ownsRow w.heap.size 40 1 (fD (iC (Φ w.heap.size)) n n) n ((IJ ws j n a).map wv)/\η w wr)(λk _=>n-(intOf k).toNat)
 case atStart=>exact⟨0,BA _,rfl,f,q⟩
 case round=>
  obtain⟨a,N,rfl,b,c⟩:=hrel;clear f q;by_cases v:a<n
  ·have l:=Ac (VY d L ws len mark g hb (j+a) wr o D (y.below c) O);obtain⟨⟨R,P⟩,K⟩:=VW b v;have i:=P9 (u:=wv (ws (j+a))) b v;rw[mM]at i;have A:=Ac i;have r:=c.setCell (p:=Δ w.heap.size a) (Ae _) (wv (ws (j+a)));have z:=Ac r;clear b i r c
   go_wp2_with fail
   rw[show(8*(j:Int)+8*(a:Int))=((8*(j+a):Nat):Int)by omega];refine l.mono ?_;rintro e S⟨rfl,rfl⟩;clear l
   go_wp2_with fail
   go_roundw
   case rel=>exact⟨a+1,O,by go_num,A.out,z.out⟩
   case measure=>simp[intOf];omega
  ·have C:a=n:=O;subst C;rw[mJ]at b
   go_wp2_with fail
   go_ret2;exact⟨_,rfl,b,c⟩
def Ah3(d L g j n:Nat)(l m:jL)(w:jD)(q:0<L)(e:L<=1024)(h:CB w d 83 [fD (iC (Φ g)) L L,.bool true,l,m])(y:j+n<=8*L)(z:0<n):
 Calls prog 114 #[ptr0 d,fP gZ ((8*j:Nat):Int),fP gZ (n:Int)] w λa w'=>a=gY (gJ #[fD iD 0 0,fP gZ 12])/\η w w':=by
 obtain⟨x,r,t,u,v⟩:=info_parts Tryz.Je.hi;have c:=Ac (Xw d L g (8*j) n _ _ _ w O e h O O);have p:=Ac h;clear h;go_enter func114,ntmps114
 go_wp2_with fail
 refine c.mono ?_;rintro a w'⟨rfl,rfl⟩;clear c
 go_wp2_with(at_make;refine wpList_make_full _ rfl _ _ 89 rfl w.heap.size 40 x (fP ig 0) 1 underlying89 r t u gZ gZ _ _ n rfl rfl rfl rfl (by rw[v];omega) (by unfold maxLen;omega) (Ae _) ?_;intro o s i)
 have f:η w o:=(Below.refl _ _).grown i (Ae _) Θ;clear i
 go_loopw [24](λk wr=>k=fP gZ 0/\wr=o)(λk _=>0)
 case atStart=>exact⟨rfl,rfl⟩
 case round=>
  obtain⟨rfl,rfl⟩:=hrel;have b:=Ac (iW d L g (8*j) l m wr q e (p.out.ξ f));clear s
  go_wp2_with fail
  rw[show(8*(j:Int))=((8*j:Nat):Int)by omega];refine b.mono ?_;rintro a A⟨rfl,rfl⟩;clear b
  go_wp2_with fail
  go_ret2;exact⟨rfl,f⟩
def Wj(w:jD)(B d:Nat)(v:jL)(j:Nat)(x:UInt64):Prop:=
 ∃a b c,v=.func (.func 103) #[] #[ptr0 a,ptr0 b,ptr0 c]/\B<=a/\B<=b/\B<=c/\
  w.heap[a]?=iC (iy #[ptr0 d] 26 (0,0))/\w.heap[b]?=iC (iy #[fP gZ ((8*j:Nat):Int)] 3 (0,0))/\w.heap[c]?=iC (iy #[fP ig (x.toNat:Int)] 40 (0,0))
def au(w:jD)(B d:Nat)(v:jL)(off:Nat):Prop:=
 ∃a b,v=.func (.func 105) #[] #[ptr0 a,ptr0 b]/\B<=a/\B<=b/\
  w.heap[a]?=iC (iy #[ptr0 d] 26 (0,0))/\w.heap[b]?=iC (iy #[fP gZ (off:Int)] 3 (0,0))
def Sl(d:TypeId)(w w':jD):Prop:=∀(b:Nat)(a:Array jL)(t:TypeId)(c:Nat×Nat),t≠d->w.heap[b]?=iC (iy a t c)->w'.heap[b]?=iC (iy a t c)
def Sl.below{b:TypeId}{w w':jD}(h:η w w'):Sl b w w':=λc _ _ _ _ a=>(h.block c (AA.1 a).1).trans a
def Wj.stays{w w':jD}{B d:Nat}{v:jL}{j:Nat}{x:UInt64}(h:Wj w B d v j x)(k:Sl 133 w w'):Wj w' B d v j x:=by
 obtain⟨a,b,c,i,l,m,n,e,f,g⟩:=h;exact⟨a,b,c,i,l,m,n,k _ _ _ _ U e,k _ _ _ _ U f,k _ _ _ _ U g⟩
def au.stays{w w':jD}{B d:Nat}{v:jL}{off:Nat}(h:au w B d v off)(k:Sl 133 w w'):au w' B d v off:=by
 obtain⟨a,b,f,g,i,c,e⟩:=h;exact⟨a,b,f,g,i,k _ _ _ _ U c,k _ _ _ _ U e⟩
def Tryz.mQ:Nv prog 132 133 .nilFunc 8:=⟨underlying132,by kernel_rfl,rfl⟩
def Sl.kept{c:TypeId}{w w':jD}{e n:Nat}{v:jL}{xs:List jL}(i:w.ownsRow e c 1 v n xs)(h:Kept w w' v.ownBlock):Sl c w w':=by
 intro d l p o j b;refine(h.2 d (AA.1 b).1 (λhb=>?_)).trans b;rcases i.2 with⟨rfl,_⟩|⟨g,k,m,rfl,_,a,_⟩
 ·cases hb
 ·have:d=g:=by simpa[Value.ownBlock]using hb
  subst this;rw[b]at a;injection a with a
  injection a with _ f _
  exact j f
def gB(B d j:Nat)(x:UInt64)(w:jD)(c:B<=w.heap.size):
 Calls prog 66 #[ptr0 d,fP gZ ((8*j:Nat):Int),fP ig (x.toNat:Int)] w λb w'=>∃a,b=gY a/\Wj w' B d a j x/\a.oneCell'=true/\η w w':=by
 refine(rF d _ _ w).mono ?_;rintro b w'⟨rfl,rfl⟩;have e:(w.alloc (iy #[ptr0 d] 26)).heap.size=w.heap.size+1:=by simp
 have f:((w.alloc (iy #[ptr0 d] 26)).alloc (iy #[fP gZ ((8*j:Nat):Int)] 3)).heap.size=w.heap.size+1+1:=by simp
 refine⟨_,rfl,⟨w.heap.size,w.heap.size+1,w.heap.size+1+1,rfl,c,O,O,?_,?_,?_⟩,rfl,(((Below.refl _ _).alloc (Ae _) _).alloc O _).alloc O _⟩
 ·exact(χ _ _ O).trans ((χ _ _ O).trans (heap_alloc_new _ _))
 ·refine(χ _ _ O).trans ?_;rw[<-e];exact heap_alloc_new _ _
 ·rw[<-f];exact heap_alloc_new _ _
def gG(B d off:Nat)(w:jD)(c:B<=w.heap.size):
 Calls prog 67 #[ptr0 d,fP gZ (off:Int)] w λb w'=>∃a,b=gY a/\au w' B d a off/\a.oneCell'=true/\η w w':=by
 refine(rG d _ w).mono ?_;rintro b w'⟨rfl,rfl⟩;have e:(w.alloc (iy #[ptr0 d] 26)).heap.size=w.heap.size+1:=by simp
 refine⟨_,rfl,⟨w.heap.size,w.heap.size+1,rfl,c,O,?_,?_⟩,rfl,((Below.refl _ _).alloc (Ae _) _).alloc O _⟩
 ·exact(χ _ _ O).trans (heap_alloc_new _ _)
 ·rw[<-e];exact heap_alloc_new _ _
def ax:jL->Array jL
 | .func _ _ a=>a
 |_=> #[]
def yL{own:Nat->Prop}{s:Nat->jD->Prop}{y:jD->Prop}(d j m:Nat)(xs:List UInt64)(w W0:jD)(K:∀b,w.heap.size<=b->¬own b)(i:Stp d own j m xs W0 s y)(Z:xs.length+m<1000000)
 (S:List jL)(I:∀t v L,t<xs.length->S[t]?=iC v->xs[t]?=iC L->Wj W0 w.heap.size d v (j+t) L)(J:∀t v,t<m->S[xs.length+t]?=iC v->au W0 w.heap.size d v (64*(j/8+t)))
 (q:S[xs.length+m]?=iC (.func (.func 69) #[ptr0 d] #[]))(P:S.length=xs.length+m+1)
 (A:Option Addr)(c:Nat)(V:Rd W0 A (xs.length+m+1) S)(M:∀u,A=iC u->w.heap.size<=u.block):
 Calls prog 68 #[fD A ((xs.length+m+1:Nat)) c] W0 λf w'=>∃c:Int,f=gY (fP gZ c)/\((c=0/\s (xs.length+m+1) w')\/(c=12/\y w')):=by
 have r:∀{k W},s k W->∀(b:Nat)(B:Array jL)(t:TypeId),w.heap.size<=b->W0.heap[b]?=iC (iy B t (0,0))->W.heap[b]?=iC (iy B t (0,0)):=λe b B t R x=>
  ((i.touch _ _ e).block b (AA.1 x).1 (K b R)).trans x
 have p:∀{W:jD}{b:Nat}{v:jL}{t:TypeId},W.heap[b]?=iC (iy #[v] t (0,0))->W.cell? (Φ b)=iC v:=λx=>by rw[cell_of_row _ _ 0 _ _ (0,0) x];rfl
 refine(iY A (xs.length+m+1) c (λk=>if k<xs.length then 103 else if k<xs.length+m then 105 else 69)
  (λk=>if k=xs.length+m then#[ptr0 d]else#[]) (λk=>ax (S.getD k .nilFunc)) s y W0 O i.start ?_ ?_ ?_)
 ·intro k Q W;by_cases g:k<xs.length
  ·simp only[jM g];exact We _ W
  ·by_cases C:k<xs.length+m
   ·simp only[ku g,jM C];exact Wh _ W
   ·simp only[ku g,ku C];exact Wi _ W
 ·intro k W e;have U:Rd W A (xs.length+m+1) S:=V.touch (i.touch _ _ e) (λu f T=>K _ (M u f) T);have N:S=(Ep (xs.length+m+1)).map λk=>Ar4 (.func (if k<xs.length then 103 else if k<xs.length+m then 105 else 69)) (if k=xs.length+m then#[ptr0 d]else#[]) (ax (S.getD k .nilFunc)):=by
   apply Fz
   ·simp[P]
   ·intro t g C;rw[List.getElem_map,List.getElem_range,Bg,Ah g];by_cases a:t<xs.length
    ·obtain⟨l,n,H,f,_⟩:=I t _ _ a (Ah g) (Ah a);rw[jM a,ku O,f];rfl
    ·by_cases o:t<xs.length+m
     ·obtain⟨l,n,f,_⟩:=J (t-xs.length) S[t] O (by rw[show xs.length+(t-xs.length)=t by omega];exact Ah g);rw[ku a,jM o,ku O,f];rfl
     ·have z:t=xs.length+m:=O;subst z;rw[Ah g]at q;injection q with q
      rw[ku a,ku o,jM rfl,q];rfl
  rw[<-N];exact U
 ·intro k W Q e;by_cases a:k<xs.length
  ·obtain⟨l,n,H,f,F,G,Y,D,E,X⟩:=I k _ _ a (Ah O) (Ah a);simp only[jM a,ku (show¬k=xs.length+m by omega),Bg,Ah (show k<S.length by omega),Qk,f,ax];exact af l n H _ _ _ W (p (r e _ _ _ F D)) ⟨_,rfl⟩ (p (r e _ _ _ G E)) (p (r e _ _ _ Y X)) (i.store k a W e)
  ·by_cases o:k<xs.length+m
   ·obtain⟨l,n,f,F,G,D,E⟩:=J (k-xs.length) S[k] O (by rw[show xs.length+(k-xs.length)=k by omega];exact Ah O);simp only[ku a,jM o,ku (show¬k=xs.length+m by omega),Bg,Ah (show k<S.length by omega),Qk,f,ax];have:=i.flush (k-xs.length) O (64*(j/8+(k-xs.length))) O W (by rw[show xs.length+(k-xs.length)=k by omega];exact e);rw[show xs.length+(k-xs.length)+1=k+1 by omega]at this;exact ag l n _ _ W (p (r e _ _ _ F D)) ⟨_,rfl⟩ (p (r e _ _ _ G E)) this
   ·have z:k=xs.length+m:=O;subst z;simp only[ku a,ku o,if_true,Bg,q,Qk,ax];exact i.fence W e
def ay{own:Nat->Prop}{W:jD->Nat->jD->Prop}{X:jD->jD->Prop}(d L g:Nat)(bd M T:jL)(j n c:Nat)(A:Option Addr)(xs:List UInt64)(w:jD)(bi:0<L)(a5:L<=1024)(aw:CB w d 83 [fD (iC (Φ g)) L L,bd,M,T])(aJ:∀z,own z->z<w.heap.size)(bm:j+n<=8*L)(br:0<n)(ac:Ws w A n xs)
 (x:∀W0,η w W0->Stp d own j ((j+n-1)/8-j/8+1) xs W0 (W W0) (X W0)):
 Calls prog 36 #[ptr0 d,fP gZ ((8*j:Nat):Int),fD A n c] w λo w'=>∃W0,η w W0/\∃c:Int,o=gY (fP gZ c)/\((c=0/\W W0 (n+((j+n-1)/8-j/8+1)+1) w')\/(c=12/\X W0 w')):=by
 have am:=Ac (λz(e:w.heap.size<=z)(l:own z)=>xH _ (Be (aJ z l) e));have al:=Ac (Xw d L g (8*j) n _ _ _ w O a5 aw O O);have a9:=ac.len;have a0:=Ac ac;obtain⟨m,aF,bq,aD,aE⟩:∃m,m=(j+n-1)/8-j/8+1/\0<m/\(∀p,j<=p->p<j+n->j/8<=p/8/\p/8<j/8+m)/\(∀a,a<m<->8*(j/8+a)<j+n):=⟨(j+n-1)/8-j/8+1,rfl,O,λp e l=>O,λa=>O⟩;have t9:decide ((0:Int)<(n:Int))=true:=decide_eq_true O;rw[<-aF]at x⊢;have ae:=Ac x;clear aF x;have bg:=Ac aD;have Y:=Ac aE;clear aw ac aD aE aJ;go_enter func36,ntmps36
 go_wp2_with fail
 refine al.mono ?_;rintro o w'⟨rfl,rfl⟩;clear al
 go_wp2_with fail
 have ao:η w (w.alloc (iy #[] 133)):=(Below.refl _ _).alloc (Ae _) _;have ap:(w.alloc (iy #[] 133)).ownsRow w.heap.size 133 1 (fD (iC (Φ w.heap.size)) 0 0) 0 []:=World.ownsRow_made w #[] 0 (Ae _) U rfl
 go_loopw [8,24](λb p wr=>∃i r,i<=n/\p=fP gZ (i:Nat)/\wr.ownsRow w.heap.size 133 1 b i r/\(∀a b k,r[a]?=iC b->xs[a]?=iC k->Wj wr w.heap.size d b (j+a) k)/\η w wr)(λ_ p _=>n-(intOf p).toNat)
 case atStart=>exact⟨0,[],BA _,rfl,ap,by simp,ao⟩
 case round=>
  obtain⟨i,r,bo,rfl,C,x,B⟩:=hrel;clear ap ao;by_cases ba:i<n
  ·obtain⟨a7,bh,bt,rfl,bj,bk⟩:=(a0.below B).at ba
   go_wp2_with fail
   rw[show(8*(j:Int)+8*(i:Int))=((8*(j+i):Nat):Int)by omega];refine(gB w.heap.size d (j+i) xs[i] wr B.size).mono ?_;rintro o y⟨M,rfl,J,e,t⟩;obtain⟨F,u,rfl⟩:∃F u,M=.func F #[] u:=by obtain⟨_,_,_,o,_⟩:=J;exact⟨_,_,o⟩
   have H:=own_below C t;have I:η w y:=τ B t;have aq:∀a b k,r[a]?=iC b->xs[a]?=iC k->Wj y w.heap.size d b (j+a) k:=λa b k e l=>(x a b k e l).stays (Sl.below t)
   have aW:=Ac aq;have Z:r.length=i:=by simpa using C.1
   clear x B C t aq
   go_wp2_with(at_builtin;go_loud(refine IG rfl (.tmp 29) (.tmp 37) 132 rfl Tryz.mQ y w.heap.size u8 i r [.func F #[] u] rfl H rfl rfl rfl rfl 1 1 rfl rfl (by simpa using e) (by simp;omega) U I.size ?_);intro T ad D E G)
   have v:=Sl.kept H G;go_roundw
   case rel=>
    refine⟨i+1,r++[.func F #[] u],O,by go_num,D,λa b k e l=>?_,I.trans E⟩;by_cases o:a<r.length
    ·rw[DK o]at e;exact(aW a b k e l).stays v
    ·have bc:a=i:=by
      have:=(List.getElem?_eq_some_iff.1 e).1;simp at this;omega
     subst bc;rw[ED O,Z,U5]at e;rw[Ah a7]at l;simp at e l;subst e l;exact J.stays v
   case measure=>simp[intOf];omega
  ·have a8:i=n:=O;subst a8;have ah:=Ac x;have Z:r.length=i:=by simpa using C.1
   clear x
   go_wp2_with fail
   rw[show(8*(j:Int)/64*64)=((64*(j/8+0):Nat):Int)by omega]
   go_loopw [8,12](λb p V=>∃a q,a<=m/\p=fP gZ ((64*(j/8+a):Nat):Int)/\V.ownsRow w.heap.size 133 1 b (i+a) q/\(∀f b k,f<i->q[f]?=iC b->xs[f]?=iC k->Wj V w.heap.size d b (j+f) k)/\(∀f b,f<a->q[i+f]?=iC b->au V w.heap.size d b (64*(j/8+f)))/\η w V)(λ_ p _=>8*(j+i)+64-(intOf p).toNat)
   case atStart=>exact⟨0,r,BA _,rfl,C,λf b k _ e l=>ah f b k e l,λf b h=>absurd h O,B⟩
   case round=>
    obtain⟨a,q,bs,rfl,K,R,S,Q⟩:=hrel;clear C B ah Z;have ar:q.length=i+a:=by simpa using K.1
    have bp:i+a<=20000:=by
     have:=Y (a-1);omega
    by_cases az:a<m
    ·have a4:=(Y a).1 az;have t1:decide (((64*(j/8+a):Nat):Int)<8*(j:Int)+8*(i:Int))=true:=decide_eq_true O;generalize av:64*(j/8+a)=a1 at*;have N:=Ac R;have P:=Ac S;clear R S
     go_wp2_with fail
     refine(gG w.heap.size d a1 wr Q.size).mono ?_;rintro o y⟨M,rfl,J,e,t⟩;obtain⟨F,u,rfl⟩:∃F u,M=.func F #[] u:=by obtain⟨_,_,o,_⟩:=J;exact⟨_,_,o⟩
     have H:=own_below K t;have I:η w y:=τ Q t;have aX:Hid (∀f b k,f<i->q[f]?=iC b->xs[f]?=iC k->Wj y w.heap.size d b (j+f) k):=Ac (λf b k s e l=>(N f b k s e l).stays (Sl.below t));have aZ:Hid (∀f b,f<a->q[i+f]?=iC b->au y w.heap.size d b (64*(j/8+f))):=Ac (λf b s e=>(P f b s e).stays (Sl.below t));clear K t N P
     go_wp2_with(at_builtin;go_loud(refine IG rfl (.tmp 56) (.tmp 60) 132 rfl Tryz.mQ y w.heap.size u8 (i+a) q [.func F #[] u] rfl H rfl rfl rfl rfl 1 1 rfl rfl (by simpa using e) (by simp;omega) U I.size ?_);intro T ad D E G)
     have v:=Sl.kept H G;refine⟨⟨_,_,_,_,_,_,_,_,_,_,_,_,_,?_,rfl⟩,?_⟩
     ·refine⟨a+1,q++[.func F #[] u],O,by rw[<-av];go_num,by rw[<-Nat.add_assoc];exact D,λf b k s e l=>?_,λf b s e=>?_,I.trans E⟩
      ·rw[DK O]at e;exact(aX f b k s e l).stays v
      ·by_cases o:f=a
       ·subst o;rw[ED O,ar,U5]at e;simp at e;subst e;rw[av];exact J.stays v
       ·rw[DK O]at e;exact(aZ f b O e).stays v
     ·simp[intOf];omega
    ·have aR:a=m:=O;subst aR;have a4:¬8*(j/8+a)<j+i:=λh=>az ((Y a).2 h)
     have t1:decide (((64*(j/8+a):Nat):Int)<8*(j:Int)+8*(i:Int))=jw:=decide_eq_false O;have N:=Ac R;have P:=Ac S;clear R S
     go_wp2_with(at_builtin;go_loud(refine IG rfl (.tmp 62) (.tmp 65) 132 rfl Tryz.mQ wr w.heap.size u8 (i+a) q [.func (.func 69) #[ptr0 d] #[]] rfl K rfl rfl rfl rfl 1 1 rfl rfl (by intro bw aM;simp at aM;subst aM;rfl) (by simp;omega) U Q.size ?_);intro T ad D E G)
     have v:=Sl.kept K G;obtain⟨be,a2,rfl,bl,bb⟩:=Cj D;obtain⟨a3,rfl,a6,_⟩:=OE D O;have ab:=Q.trans E;subst a9;refine(yL d j a xs w ad am.out (ae _ ab) O (q++[.func (.func 69) #[ptr0 d] #[]])
      (λf b k s e l=>?_) (λf b s e=>?_) ?_ (by simp;omega) (iC (Φ a3)) a2 bb (λf aa=>by injection aa with aa;subst aa;exact a6)).mono ?_
     ·rw[DK O]at e;exact(N f b k s e l).stays v
     ·rw[DK O]at e;exact(P f b s e).stays v
     ·rw[ED O,ar,U5];rfl
     rintro o w'⟨an,rfl,aL⟩;have aV:=Ac (⟨_,ab,an,rfl,aL⟩:∃W0,η w W0/\∃c:Int,Ending.returned (fP gZ an)=gY (fP gZ c)/\((c=0/\W W0 (xs.length+a+1) w')\/(c=12/\X W0 w')));clear aL ab ae am
     go_wp2_with fail
     go_ret;exact aV.out
def Yq(lf:Int)(d L g:Nat)(hb:Nat->Option Nat)(ws:Nat->UInt64)(j n c:Nat)(A:Option Addr)(xs:List UInt64)(w:jD)(k:0<L)(i:L<=1024)(h:CY w d L ws (MU lf) (λ_=>0) g hb)(p:j+n<=8*L)(q:0<n)(m:Ws w A n xs):
 Calls prog 36 #[ptr0 d,fP gZ ((8*j:Nat):Int),fD A n c] w λf w'=>∃c:Int,f=gY (fP gZ c)/\Wrote lf (n+((j+n-1)/8-j/8+1)+1) w d L g hb ws j xs c w':=by
 obtain⟨u,o⟩:=h.box;have l:=m.len;refine(ay d L g _ _ _ j n c A xs w k i o h.lt p q m (λW0 e=>Ab5 k i (h.below e) O O O O (λt b r=>O) (λv s=>O))).mono ?_;rintro f w'⟨W0,e,c,rfl,a⟩;refine⟨c,rfl,Wrote.back (W0:=W0) ?_ e⟩;rw[l]at a;rcases a with⟨b,a⟩|⟨b,a⟩
 ·refine .inl ⟨b,a.1,?_⟩;have:=a.2;rw[l,ku O,ku O]at this;exact this
 ·exact .inr ⟨b,a⟩
def rJ(d L g j n c:Nat)(A:Option Addr)(xs:List UInt64)(m o:jL)(w:jD)(f:0<L)(e:L<=1024)(b:CB w d 83 [fD (iC (Φ g)) L L,.bool true,m,o])(i:j+n<=8*L)(k:0<n)(l:Ws w A n xs):
 Calls prog 36 #[ptr0 d,fP gZ ((8*j:Nat):Int),fD A n c] w λa w'=>a=gY (fP gZ 12)/\η w w':=by
 refine(ay (own:=λ_=>False) d L g _ _ _ j n c A xs w f e b (λ_ h=>h.elim) i k l (λW0 hb=>rH f e (b.ξ hb) _ j _ xs)).mono ?_;rintro a w'⟨W0,hb,c,rfl,⟨_,p,_⟩|⟨rfl,rfl⟩⟩
 ·omega
 ·exact⟨rfl,hb⟩
def yM(d L g:Nat)(hb:Nat->Option Nat)(ws:Nat->UInt64)(j n c:Nat)(A:Option Addr)(xs:List UInt64)(w:jD)(e:0<L)(b:L<=1024)(h:CY w d L ws M0 (λ_=>0) g hb)(i:j+n<=8*L)(k:0<n)(m:Ws w A n xs):
 Calls prog 36 #[ptr0 d,fP gZ ((8*j:Nat):Int),fD A n c] w λa w'=>a=gY (fP gZ 0)/\Dv w d L g hb (BX ws j xs) M0 (λ_=>0) w':=by
 refine(Yq (-1) d L g hb ws j n c A xs w e b h i k m).mono ?_;rintro a w'⟨o,rfl,l⟩;obtain⟨rfl,f⟩:=l.up;exact⟨rfl,f⟩
def Tt(w:jD)(b:Nat)(xs:List UInt64):Prop:=∃c:Array jL,w.heap[b]?=iC (iy c 40 (0,0))/\∀a(h:a<xs.length),c[a]?=iC (wv xs[a])
def Tt.lt{w:jD}{b:Nat}{xs:List UInt64}(h:Tt w b xs):b<w.heap.size:=by
 obtain⟨c,a,_⟩:=h;exact(AA.1 a).1
def Tt.keep{w w':jD}{b:Nat}{xs:List UInt64}(h:Tt w b xs)(e:w'.heap[b]?=w.heap[b]?):Tt w' b xs:=by
 obtain⟨a,d,c⟩:=h;exact⟨a,e.trans d,c⟩
def Tt.cell{w:jD}{b:Nat}{xs:List UInt64}(h:Tt w b xs)(k:Nat)(e:k<xs.length):w.cell? (Δ b k)=iC (fP ig (xs[k].toNat:Int)):=by
 obtain⟨a,d,c⟩:=h;rw[cell_of_row w b k a _ (0,0) d,c k e];rfl
def Tt.frozen{w:jD}{b:Nat}{xs:List UInt64}(h:Tt w b xs)(k:Nat):w.frozen? (Δ b k)=jw:=by
 obtain⟨c,a,d⟩:=h;simp[Jg,a]
def Tt.set{w:jD}{b:Nat}{xs:List UInt64}(h:Tt w b xs)(k:Nat)(x:UInt64):Tt (w.setCell (Δ b k) (wv x)) b (xs.set k x):=by
 obtain⟨f,g,d⟩:=h;refine⟨_,FW _ g,λe c=>?_⟩;rw[List.length_set]at c;rw[Array.getElem?_setIfInBounds,Lc];by_cases a:k=e
 ·subst a;have:k<f.size:=(AA.1 (d k c)).1;rw[jM rfl,jM rfl,jM this]
 ·rw[ku a,ku a];exact d e c
def Tt.OH{w:jD}{i b n c:Nat}{xs:List UInt64}(h:w.ownsRow i 40 1 (fD (iC (Φ b)) n c) n (xs.map wv)):Tt w b xs:=by
 obtain⟨k,d⟩:=h;rcases d with⟨d,_⟩|⟨q,p,j,f,r,l,v,s,t,m⟩
 ·cases d
 ·simp only[Value.slice.injEq,Option.some.injEq,Addr.mk.injEq,and_true,true_and]at f;obtain⟨rfl,rfl⟩:=f;refine⟨j,l,λg e=>?_⟩;have u:g<n:=by simpa using(by simpa using k:xs.length=n)▸e
  have a:=congrArg (λo=>o[g]?) m;simp only[Di,DJ,Ah e,Ez]at a;rw[jM O]at a;rw[<-Array.getElem?_toList];exact a
structure AL(F F':Nat->Prop)(w w':jD):Prop where
 touch:Touch F w w'
 own:∀b,F' b->F b\/w.heap.size<=b
def AL.refl(F:Nat->Prop)(w:jD):AL F F w w:=⟨Touch.refl _ _,λ_ h=>.inl h⟩
def AL.of_below{F:Nat->Prop}{w w':jD}(h:η w w'):AL F F w w':=⟨Touch.of_below h,λ_ h=>.inl h⟩
def AL.trans{F F' c:Nat->Prop}{w w' d:jD}(h:AL F F' w w')(k:AL F' c w' d):AL F c w d:=
 ⟨h.touch.trans k.touch (λb hb=>h.own b hb),λb hb=>(k.own b hb).elim (λa=>h.own b a) (λa=>.inr (Bq h.touch.size a))⟩
def AL.below{F F':Nat->Prop}{w w' a:jD}(h:AL F F' w w')(k:η w' a):AL F F' w a:=h.trans (AL.of_below k)
def AL.set{F F':Nat->Prop}{w w':jD}(h:AL F F' w w'){p:Addr}(a:F p.block\/w.heap.size<=p.block)(u:jL):AL F F' w (w'.setCell p u):=⟨h.touch.setCell a u,h.own⟩
structure Tabs(w:jD):Prop where
 fours:∀j,j<16->w.cell? (Δ 0 j)=iC (fP .u32 (MB.getD j 0:Nat))
 mV:∀j,j<64->w.cell? (Δ 1 j)=iC (fP .u8 (Lib.deBruijn64tab.getD j 0:Nat))
def Tabs.keep{w w':jD}(h:Tabs w)(h1:w'.heap[0]?=w.heap[0]?)(h2:w'.heap[1]?=w.heap[1]?):Tabs w':=
 ⟨λj a=>(BI (w:=w) h1).trans (h.fours j a),λj a=>(BI (w:=w) h2).trans (h.mV j a)⟩
def Tabs.lt{w:jD}(h:Tabs w):0<w.heap.size/\1<w.heap.size:=
 ⟨Gu w _ (h.fours 0 U),Gu w _ (h.mV 0 U)⟩
def Tabs.below{w w':jD}(h:Tabs w)(k:η w w'):Tabs w':=h.keep (k.block _ h.lt.1) (k.block _ h.lt.2)
inductive Dq where
 |up(m:Mode)
 |down(P:(Nat->UInt64)->Prop)
instance:Coe Mode Dq:=⟨.up⟩
def Uc(w:jD)(d L:Nat)(P:(Nat->UInt64)->Prop)(own:Nat->Prop):Prop:=
 ∃(m:Mode)(ws:Nat->UInt64)(mark:Nat->Nat),m.lf=0/\Dev w d L ws m mark own/\(∀a,m a<=1000000)/\(∀a,∀e∈m.YR a,∃c,c<8/\e.1=8*c)/\∀b:Nat->Nat,(∀a,b a<=m a)->P (qZ m b ws)
def Vo(w:jD)(d L:Nat)(ws:Nat->UInt64)(m:Dq)(own:Nat->Prop):Prop:=match m with
 | .up m=>Dev w d L ws m (λ_=>0) own/\m.lf≠0
 | .down a=>Uc w d L a own
def Vo.rep{w:jD}{d L:Nat}{ws:Nat->UInt64}{m:Dq}{own:Nat->Prop}(h:Vo w d L ws m own):∃b a mark,Dev w d L b a mark own:=by
 cases m with
 |up m=>exact⟨_,_,_,h.1⟩
 |down c=>obtain⟨_,_,_,_,h,_⟩:=h;exact⟨_,_,_,h⟩
def Vo.lt{w:jD}{d L:Nat}{ws:Nat->UInt64}{m:Dq}{own:Nat->Prop}(h:Vo w d L ws m own):∀a,own a->a<w.heap.size:=by
 obtain⟨_,_,_,h⟩:=h.rep;exact h.lt
def Vo.touch{w w':jD}{d L:Nat}{ws:Nat->UInt64}{m:Dq}{own F:Nat->Prop}(h:Vo w d L ws m own)(t:Touch F w w')(hF:∀a,own a->¬F a):Vo w' d L ws m own:=by
 cases m with
 |up m=>exact⟨h.1.touch t hF,h.2⟩
 |down f=>obtain⟨m,ws,mark,b,c,e⟩:=h;exact⟨m,ws,mark,b,c.touch t hF,e⟩
def Vo.below{w w':jD}{d L:Nat}{ws:Nat->UInt64}{m:Dq}{own:Nat->Prop}(h:Vo w d L ws m own)(k:η w w'):Vo w' d L ws m own:=h.touch (Touch.of_below (F:=λ_=>False) k) (λ_ _=>id)
def Vo.box{w:jD}{d L:Nat}{ws:Nat->UInt64}{m:Dq}{own:Nat->Prop}(h:Vo w d L ws m own):∃g c e f,CB w d 83 [fD (iC (Φ g)) L L,c,e,f]:=by
 obtain⟨_,_,_,g,hb,b,_⟩:=h.rep;obtain⟨i,a⟩:=b.box;exact⟨g,_,_,_,a⟩
def Vo.size{w:jD}{d L:Nat}{ws:Nat->UInt64}{m:Dq}{own:Nat->Prop}(h:Vo w d L ws m own)(b:L<=1024):Calls prog 33 #[ptr0 d] w λa w'=>a=gY (fP gZ ((L*64:Nat):Int))/\w=w':=by
 obtain⟨g,_,_,_,c⟩:=h.box;exact Tq d L g _ _ _ w b c
structure EO(len:Dq)(w:jD)(d p L:Nat)(s:St)(tb hb n cT cH:Nat)(own:Nat->Prop):Prop where
 dev:Vo w d L s.ws len own
 L0:0<L
 L1:L<=1024
 shape:shapeOf L=iC s.sh
 box:CB w p 127 [ptr0 d,fP gZ (s.sh.lines:Nat),fP gZ (s.sh.BO:Nat),fP gZ (s.sh.table:Nat),fP gZ (s.sh.data:Nat),fD (iC (Φ tb)) n cT,fD (iC (Φ hb)) n cH]
 tk:Tt w tb s.tk
 hd:Tt w hb s.hd
 Rj:s.tk.length=n
 xn:s.hd.length=n
 iZ:n=s.sh.BO
 cT:n<=cT
 cH:n<=cH
 dp:¬own p
 dt:¬own tb
 dh:¬own hb
 pt:p≠tb
 ph:p≠hb
 th:tb≠hb
 tabs:Tabs w
 g1:¬(own 0\/0=p\/0=tb\/0=hb)
 g2:¬(own 1\/1=p\/1=tb\/1=hb)
def EE(len:Dq)(w:jD)(d p L:Nat)(s:St)(F:Nat->Prop):Prop:=
 ∃b hb f e c own,EO len w d p L s b hb f e c own/\∀a,F a<->(own a\/a=p\/a=b\/a=hb)
abbrev Sys:=EE (.up M0)
section
variable{w w':jD}{d p L:Nat}{s:St}{F:Nat->Prop}
def EE.lt{len:Dq}(h:EE len w d p L s F):∀a,F a->a<w.heap.size:=by
 obtain⟨i,hb,g,f,e,own,h,hF⟩:=h;intro a c;rcases(hF a).1 c with b|rfl|rfl|rfl
 ·exact h.dev.lt a b
 ·exact h.box.lt
 ·exact h.tk.lt
 ·exact h.hd.lt
def EE.tabs{len:Dq}(h:EE len w d p L s F):Tabs w:=by
 obtain⟨e,hb,c,b,a,own,h,hF⟩:=h;exact h.tabs
def EE.keep{len:Dq}(h:EE len w d p L s F){G:Nat->Prop}(t:Touch G w w')(e:∀a,F a->¬G a)(i:¬G 0)(j:¬G 1):EE len w' d p L s F:=by
 have k:=h.lt;obtain⟨c,hb,l,g,f,own,h,hF⟩:=h;have keep:∀a,F a->w'.heap[a]?=w.heap[a]?:=λa b=>t.block a (k a b) (e a b)
 refine⟨c,hb,l,g,f,own,⟨h.dev.touch t (λa b=>e a ((hF a).2 (.inl b))),h.L0,h.L1,h.shape,(keep p ((hF p).2 (.inr (.inl rfl)))).trans h.box,h.tk.keep (keep c ((hF c).2 (.inr (.inr (.inl rfl))))),h.hd.keep (keep hb ((hF hb).2 (.inr (.inr (.inr rfl))))),h.Rj,h.xn,h.iZ,h.cT,h.cH,h.dp,h.dt,h.dh,h.pt,h.ph,h.th,
  h.tabs.keep (t.block _ h.tabs.lt.1 i) (t.block _ h.tabs.lt.2 j),h.g1,h.g2⟩,hF⟩
def EE.below{len:Dq}(h:EE len w d p L s F)(k:η w w'):EE len w' d p L s F:=
 h.keep (Touch.of_below (F:=λ_=>False) k) (λ_ _=>id) id id
end
def aA(L:Nat):∀a s,Pz s<=L\/s=0->Pz (Ky L a s)<=L\/Ky L a s=0
 |0,s,h=>h
 |a+1,s,h=>by
  unfold Ky;split
  ·rename_i b;exact aA L a (s+1) (.inl b)
  ·exact h
structure gI(L:Nat)(sh:Sh):Prop where
 BO:0<sh.BO
 lines:sh.lines=L
 table:sh.table=128
 data:sh.data=64*Kz sh.BO
 fits:sh.data+1024*sh.BO<=64*L
 OI:128+8*sh.BO<=sh.data
def IK{L:Nat}{sh:Sh}(h:shapeOf L=iC sh):gI L sh:=by
 unfold shapeOf at h;split at h
 ·cases h
 ·dsimp only at h
  split at h
  ·cases h
  ·rename_i b a;injection h with h
   have:=(aA L L 0 (.inr rfl)).resolve_right a;subst h;unfold Pz Kz at this;refine⟨Nat.pos_of_ne_zero a,rfl,rfl,by simp[Nat.mul_comm],?_,?_⟩
   ·show(2+(QY L+7)/8)*64+1024*QY L<=64*L;unfold QY;omega
   ·show 128+8*QY L<=(2+(QY L+7)/8)*64;omega
section
variable{w w':jD}{d p L:Nat}{s:St}{F:Nat->Prop}
def EO.wrote{m:Dq}{o:Mode}{tb hb n cT cH g:Nat}{own:Nat->Prop}{r:Nat->Option Nat}{ws':Nat->UInt64}(h:EO m w d p L s tb hb n cT cH own)(hF:∀a,F a<->(own a\/a=p\/a=tb\/a=hb))(j:∀a,own a<->Fe d L g r a)
 (hd:Dv w d L g r ws' o (λ_=>0) w')(A:o.lf≠0):∃q,EE o w' d p L {s with ws:=ws'} q/\AL F q w w':=by
 obtain⟨i,x,z,y⟩:=hd;have f:∀a,a<w.heap.size->¬own a->¬Fe d L g i a:=λa v l b=>(x a b).elim (λc=>l ((j a).2 c)) (λc=>O)
 have e:∀a,a<w.heap.size->¬own a->w'.heap[a]?=w.heap[a]?:=λa v l=>y.block a v (λc=>l ((j a).2 c))
 have t:¬own 0:=λb=>h.g1 (.inl b)
 have u:¬own 1:=λb=>h.g2 (.inl b)
 refine⟨λa=>Fe d L g i a\/a=p\/a=tb\/a=hb,⟨tb,hb,n,cT,cH,Fe d L g i,⟨⟨⟨g,i,z,λ_=>Iff.rfl⟩,A⟩,h.L0,h.L1,h.shape,(e p h.box.lt h.dp).trans h.box,h.tk.keep (e tb h.tk.lt h.dt),h.hd.keep (e hb h.hd.lt h.dh),h.Rj,h.xn,h.iZ,h.cT,h.cH,
  f p h.box.lt h.dp,f tb h.tk.lt h.dt,f hb h.hd.lt h.dh,h.pt,h.ph,h.th,h.tabs.keep (e _ h.tabs.lt.1 t) (e _ h.tabs.lt.2 u),
  λb=>b.elim (f _ h.tabs.lt.1 t) (λc=>h.g1 (.inr c)),λb=>b.elim (f _ h.tabs.lt.2 u) (λc=>h.g2 (.inr c))⟩,λ_=>Iff.rfl⟩,⟨y.mono (λa k=>(hF a).2 (.inl ((j a).2 k))),λa k=>?_⟩⟩
 rcases k with b|b
 ·exact(x a b).imp (λc=>(hF a).2 (.inl ((j a).2 c))) id
 ·exact .inl ((hF a).2 (.inr b))
def EO.cut{m:Dq}{e:Mode}{mark:Nat->Nat}{P:(Nat->UInt64)->Prop}{tb hb n cT cH g:Nat}{own:Nat->Prop}{t:Nat->Option Nat}{ws':Nat->UInt64}(h:EO m w d p L s tb hb n cT cH own)(hF:∀a,F a<->(own a\/a=p\/a=tb\/a=hb))(l:∀a,own a<->Fe d L g t a)
 (hd:Dv w d L g t ws' e mark w')(I:e.lf=0)(G:∀f,e f<=1000000)(E:∀f,∀C∈e.YR f,∃B,B<8/\C.1=8*B)(D:∀A:Nat->Nat,(∀f,A f<=e f)->P (qZ e A ws'))(J:Nat->UInt64):∃r,EE (.down P) w' d p L {s with ws:=J} r/\AL F r w w':=by
 obtain⟨k,y,H,z⟩:=hd;have j:∀a,a<w.heap.size->¬own a->¬Fe d L g k a:=λa x q b=>(y a b).elim (λc=>q ((l a).2 c)) (λc=>O)
 have i:∀a,a<w.heap.size->¬own a->w'.heap[a]?=w.heap[a]?:=λa x q=>z.block a x (λc=>q ((l a).2 c))
 have u:¬own 0:=λb=>h.g1 (.inl b)
 have v:¬own 1:=λb=>h.g2 (.inl b)
 refine⟨λa=>Fe d L g k a\/a=p\/a=tb\/a=hb,⟨tb,hb,n,cT,cH,Fe d L g k,⟨⟨e,ws',mark,I,⟨g,k,H,λ_=>Iff.rfl⟩,G,E,D⟩,h.L0,h.L1,h.shape,(i p h.box.lt h.dp).trans h.box,h.tk.keep (i tb h.tk.lt h.dt),h.hd.keep (i hb h.hd.lt h.dh),h.Rj,h.xn,h.iZ,h.cT,h.cH,
  j p h.box.lt h.dp,j tb h.tk.lt h.dt,j hb h.hd.lt h.dh,h.pt,h.ph,h.th,h.tabs.keep (i _ h.tabs.lt.1 u) (i _ h.tabs.lt.2 v),
  λb=>b.elim (j _ h.tabs.lt.1 u) (λc=>h.g1 (.inr c)),λb=>b.elim (j _ h.tabs.lt.2 v) (λc=>h.g2 (.inr c))⟩,λ_=>Iff.rfl⟩,⟨z.mono (λa o=>(hF a).2 (.inl ((l a).2 o))),λa o=>?_⟩⟩
 rcases o with b|b
 ·exact(y a b).imp (λc=>(hF a).2 (.inl ((l a).2 c))) id
 ·exact .inl ((hF a).2 (.inr b))
def mX{len:Mode}(h:EE len w d p L s F)(j n:Nat)(e:j+n<=8*L):
 Calls prog 114 #[ptr0 d,fP gZ ((8*j:Nat):Int),fP gZ (n:Int)] w λb w'=>∃a,b=gY (gJ #[a,fP gZ 0])/\
  w'.ownsRow w.heap.size 40 1 a n ((wordsAt s.ws j n).map wv)/\η w w':=by
 obtain⟨q,hb,o,l,k,own,h,hF⟩:=h;obtain⟨⟨g,c,f,m⟩,i⟩:=h.dev;exact mO d L s.ws _ _ g c j n w h.L0 h.L1 i f e
def rM{ws0 ws:Nat->UInt64}{i:Nat}(q:Nat):∀{l:List (Nat×UInt64)},(∀a∈l,a.2=ws0 (8*i+a.1/8))->qY i l ws q=ws q\/qY i l ws q=ws0 q
 |[],_=>.inl rfl
 |a::l,h=>by
  unfold qY;by_cases b:q=8*i+a.1/8
  ·right;rw[jM b,h a (Bo ..),<-b]
  ·rw[ku b];exact rM q (λd c=>h d (List.mem_cons_of_mem _ c))
def Half(ws b ws':Nat->UInt64):Prop:=∀a,ws' a=ws a\/ws' a=b a
def yN{ws b e:Nat->UInt64}{j n:Nat}{m:Mode}(h:aj ws j n m)(h1:∀a,b a=ws a\/b a=e a)(d:Nat->Nat):Half ws e (qZ m d b):=λa=>by
 unfold qZ;rcases rM (ws0:=ws) (ws:=b) (i:=a/8) a (l:=(m.YR (a/8)).drop (d (a/8))) (λf g=>by
  obtain⟨k,t1,t2,t3,t4,t5⟩:=h (a/8) f (List.mem_of_mem_drop g);rw[t5];congr 1;omega)with c|c
 ·rw[c];exact h1 a
 ·exact .inl c
end
def Dv.dev{w w':jD}{d L g:Nat}{b:Nat->Option Nat}{own:Nat->Prop}{ws':Nat->UInt64}(e:∀a,own a<->Fe d L g b a)(i:Dv w d L g b ws' M0 (λ_=>0) w'):
 ∃f,Dev w' d L ws' M0 (λ_=>0) f/\Touch own w w'/\∀a,f a->own a\/w.heap.size<=a:=by
 obtain⟨c,j,k,l⟩:=i;exact⟨Fe d L g c,⟨g,c,k,λ_=>Iff.rfl⟩,l.mono (λa hb=>(e a).2 hb),λa hb=>(j a hb).imp (e a).2 id⟩
def aB{w:jD}{d L:Nat}{ws:Nat->UInt64}{own:Nat->Prop}(i:0<L)(f:L<=1024)(h:Dev w d L ws M0 (λ_=>0) own)(j n c:Nat)(A:Option Addr)(xs:List UInt64)(m:j+n<=8*L)(o:0<n)(r:Ws w A n xs):
 Calls prog 36 #[ptr0 d,fP gZ ((8*j:Nat):Int),fD A n c] w λb w'=>b=gY (fP gZ 0)/\
  ∃e,Dev w' d L (BX ws j xs) M0 (λ_=>0) e/\Touch own w w'/\∀a,e a->own a\/w.heap.size<=a:=by
 obtain⟨g,k,q,p⟩:=h;refine(yM d L g k ws j n c A xs w i f q m o r).mono ?_;rintro b w'⟨rfl,l⟩;exact⟨rfl,l.dev p⟩
def Ad7{w:jD}{d L:Nat}{ws:Nat->UInt64}{own:Nat->Prop}(n:0<L)(m:L<=1024)(h:Dev w d L ws M0 (λ_=>0) own):
 Calls prog 35 #[ptr0 d,fP gZ 0,fP gZ (L:Int)] w λf w'=>f=gY (fP gZ 0)/\
  ∃b,Dev w' d L (BX ws 0 (BB (8*L) 0)) M0 (λ_=>0) b/\Touch own w w'/\∀a,b a->own a\/w.heap.size<=a:=by
 obtain⟨A,r,x,y,z⟩:=info_parts Tryz.Je.hi;have t1:decide ((L:Int)<0)=jw:=by simp
 have t2:decide ((1024:Int)<(L:Int))=jw:=decide_eq_false O;have k:=Ac h;clear h;go_enter func35,ntmps35
 go_wp2_with(at_make;rw[show(L:Int)*8=((8*L:Nat):Int)by omega];refine wpList_make_full _ rfl _ _ 89 rfl w.heap.size 40 A (fP ig 0) 1 underlying89 r x y gZ gZ _ _ (8*L) rfl rfl rfl rfl (by rw[z];omega) (by unfold maxLen;omega) (Ae _) ?_;intro j i q)
 have c:η w j:=(Below.refl _ _).grown q (Ae _) Θ;obtain⟨g,o,u,s⟩:=k.out;have l:Dev j d L ws M0 (λ_=>0) own:=⟨g,o,u.below c,s⟩;rw[Me]at i;have e:=aB n m l 0 (8*L) (8*L) (iC (Φ w.heap.size)) (BB (8*L) 0) O O (CQ i).2;rw[show((8*0:Nat):Int)=0 from rfl]at e;refine e.mono ?_;rintro f w'⟨rfl,b,p,v,t⟩
 go_wp2_with fail
 go_ret;refine⟨rfl,b,p,(Touch.of_below c).trans v (λa hb=>.inl hb),λa hb=>(t a hb).imp id (λh=>Bq c.size h)⟩
