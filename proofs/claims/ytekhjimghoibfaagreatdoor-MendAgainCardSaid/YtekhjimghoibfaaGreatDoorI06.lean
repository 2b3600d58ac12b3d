import Derived.Lib.TrailingZeros
import Derived.Test.YtekhjimghoibfaaGreatDoorI05
set_option linter.defProp false
set_option maxHeartbeats 32000000
set_option maxRecDepth 100000
open Go.World renaming block_lt_of_cell?->D8,frozen?->GM,cell?_of_block->Bh,cell?_alloc_past->Df,cell?_alloc_at->Jw
open Go.Lib renaming hid->Aa
open Nat renaming zero_le->BB,le_refl->Ad,le_trans->Bi,min_eq_left->NG,add_sub_cancel_left->QL,sub_self->Tz,lt_irrefl->Y9,lt_of_lt_of_le->BI
open List renaming replicate->BC,ext_getElem->EC,getElem?_replicate->IG,getElem?_append_left->DU,range->DW,getElem?_map->CB,length_take->Em,getD_eq_getElem?_getD->Bo,getElem?_take->Dj,getElem?_eq_getElem->Ae,mem_cons_self->BA,length_cons->BD,length_nil->Dp,getElem_set->KL,getElem?_append_right->Eg
open Go.Value renaming int->Aw,slice->Ac,func->Aqa
open Option renaming map_some->DJ,getD_some->P9
open Array renaming getElem?_eq_some_iff->AA
namespace Go.Proofs.YtekhjimghoibfaaGreatDoor
open Go.RowKit
open Go.Proofs.Tryz
def dD(g i:Nat)(w:World)(b:w.cell? (Δ g (66*i+65))=some (.int .i64 0)):
 Calls prog 136 #[.pointer (some (Δ g (66*i)))] w λa w'=>a=.returned (.tuple #[])/\w=w':=by
 go_enter func136,ntmps136;go_wp2;go_end0;exact⟨rfl,rfl⟩
def Afw(A:Option Addr)(n c:Nat)(i:n<=1000000):∃b,∀W,(Instr.slice 79 (.slice A n c) (some (.int .i64 (n:Int))) none none).run prog W=.ok (.slice b 0 (c-n)) W:=by
 obtain⟨a,f,j,g,k⟩:∃a,prog.info? 137=some a/\a.zero=some (.agg #[.int .i64 0,.int .u64 0])/\a.size=2/\a.bytes=16:=by
  have e:(prog.info? 137).map (λa=>(a.zero,a.size,a.bytes))=some (some (.agg #[.int .i64 0,.int .u64 0]),2,16):=by kernel_rfl
  exact info_parts e
 refine⟨if c=n then A else A.map (·.add (n*2)),λW=>?_⟩;have d:=run_sliceBound (P:=prog) (w:=W) .i64 (n:Int) n .sliceB O O;have h:(sizeOf 137).run prog W=.ok 2 W:=by simp[sizeOf,typeInfo,f,g]
 simp[Instr.slice,run_underlying underlying79,Instr.sliceBounds,d]
def wC(g i n c:Nat)(A:Option Addr)(w:World)(j:n<=1000000)(h:w.cell? (Δ g (66*i+64))=some (.slice A n c))(k:w.cell? (Δ g (66*i+65))=some (.int .i64 ((n:Int)+1)))
 (f1:w.frozen? (Δ g (66*i+64))=false)(f2:w.frozen? (Δ g (66*i+65))=false):
 Calls prog 136 #[.pointer (some (Δ g (66*i)))] w λf w'=>f=.returned (.tuple #[])/\∃e d,η w d/\w'=(d.setCell (Δ g (66*i+64)) (.slice e 0 0)).setCell (Δ g (66*i+65)) (.int .i64 0):=by
 have b:g<w.heap.size:=D8 w _ h;obtain⟨l,q⟩:=Afw A n c j;have m:IntKind.i64.wrap ((n:Int)+1-1)=(n:Int):=by rw[Int.add_sub_cancel];exact IntWalk.i64_in _ O
 have o:IntKind.i64.wrap (n:Int)=(n:Int):=IntWalk.i64_in _ O;have t1:decide ((0:Int)<(n:Int)+1)=true:=decide_eq_true O;go_enter func136,ntmps136
 go_wp2_with fail
 go_region_with(go_at_call 167;go_loud(refine(wB _ _ _).mono ?_;rintro f d⟨e,rfl,a⟩;have r:=(a.cell (p:=Δ g (66*i+64)) b).trans h;have s:=(a.frozen (p:=Δ g (66*i+64)) b).trans f1;have t:=(a.cell (p:=Δ g (66*i+65)) b).trans k;have u:=(a.frozen (p:=Δ g (66*i+65)) b).trans f2))
 all_goals(go_wp2_with fail)
 all_goals(go_end0)
 all_goals(exact⟨rfl,e,d,⟨a.os,a.tape,a.output,a.size,a.block⟩,rfl⟩)
def TC(k:Nat)(len:Mode)(mark:Nat->Nat):Mode:=⟨λa=>if a<k/\mark a≠0 then[]else len.NC a,len.lf⟩
def MX(k:Nat)(mark:Nat->Nat)(i:Nat):Nat:=if i<k then 0 else mark i
def L6(k:Nat)(mark:Nat->Nat)(hb:Nat->Option Nat)(i:Nat):Option Nat:=if i<k/\mark i≠0 then none else hb i
def Ab4(len:Mode)(mark:Nat->Nat):TC 0 len mark=len:=by
 cases len;rfl
def wE(mark:Nat->Nat):MX 0 mark=mark:=by funext i;simp[MX]
def Afx(mark:Nat->Nat)(hb:Nat->Option Nat):L6 0 mark hb=hb:=by funext i;simp[L6]
def Ajr(k:Nat)(len:Mode)(mark:Nat->Nat)(b:mark k=0):TC (k+1) len mark=TC k len mark:=by
 unfold TC;congr 1;funext i;by_cases a:i=k
 ·subst a;simp[b]
 ·simp only[show(i<k+1)=(i<k)by apply propext;omega]
def Afy(k:Nat)(mark:Nat->Nat)(b:mark k=0):MX (k+1) mark=MX k mark:=by
 funext i;unfold MX;by_cases a:i=k
 ·subst a;simp[b]
 ·simp only[show(i<k+1)=(i<k)by apply propext;omega]
def Anj(k:Nat)(mark:Nat->Nat)(hb:Nat->Option Nat)(b:mark k=0):L6 (k+1) mark hb=L6 k mark hb:=by
 funext i;unfold L6;by_cases a:i=k
 ·subst a;simp[b]
 ·simp only[show(i<k+1)=(i<k)by apply propext;omega]
def Afz(k:Nat)(len:Mode)(mark:Nat->Nat)(b:mark k≠0):TC (k+1) len mark=(TC k len mark).wipe k:=by
 unfold TC Mode.wipe;congr 1;funext i;by_cases a:i=k
 ·subst a;simp[b]
 ·simp only[show(i<k+1)=(i<k)by apply propext;omega,if_neg a]
def Ab5(k:Nat)(mark:Nat->Nat):MX (k+1) mark=λa=>if a=k then 0 else MX k mark a:=by
 funext a;unfold MX;by_cases b:a=k
 ·subst b;simp
 ·simp only[show(a<k+1)=(a<k)by apply propext;omega,if_neg b]
def Ajs(k:Nat)(mark:Nat->Nat)(hb:Nat->Option Nat)(c:mark k≠0):L6 (k+1) mark hb=λa=>if a=k then none else L6 k mark hb a:=by
 funext a;unfold L6;by_cases b:a=k
 ·subst b;simp[c]
 ·simp only[show(a<k+1)=(a<k)by apply propext;omega,if_neg b]
def Af0(d L:Nat)(ws:Nat->UInt64)(len:Mode)(mark:Nat->Nat)(g:Nat)(hb:Nat->Option Nat)(k:Nat)(w:World)(q:k<L)(h:Cb w d L ws (TC k len mark) (MX k mark) g (L6 k mark hb))
 (u:mark k=0\/mark k=len k+1)(t:len k<=1000000):
 Calls prog 136 #[.pointer (some (Δ g (66*k)))] w λf w'=>f=.returned (.tuple #[])/\
  Cb w' d L ws (TC (k+1) len mark) (MX (k+1) mark) g (L6 (k+1) mark hb)/\Touch (λb=>b=g) w w':=by
 obtain⟨l,c,C,A,s⟩:=h.blk;obtain⟨i,j,m,n,B⟩:=s k q;have x:(TC k len mark).len k=len k:=by simp[TC,Mode.len]
 have y:MX k mark k=mark k:=by simp[MX]
 rw[x]at m;rw[y]at n;have z:w.cell? (Δ g (66*k+64))=some (.slice i (len k) j):=by rw[cell_of_row w g _ l _ (0,0) c];exact m
 have e:w.cell? (Δ g (66*k+65))=some (.int .i64 (mark k:Int)):=by rw[cell_of_row w g _ l _ (0,0) c];exact n
 have f1:w.frozen? (Δ g (66*k+64))=false:=by simp[GM,c]
 have f2:w.frozen? (Δ g (66*k+65))=false:=by simp[GM,c]
 by_cases a:mark k=0
 ·rw[a]at e;refine(dD g k w e).mono ?_;rintro f w'⟨rfl,rfl⟩;refine⟨rfl,?_,Touch.refl _ _⟩;rw[Ajr _ _ _ a,Afy _ _ a,Anj _ _ _ a];exact h
 ·have v:mark k=len k+1:=u.resolve_left a;rw[v,Int.natCast_add]at e;refine(wC g k (len k) j i w t z e f1 f2).mono ?_;rintro f w'⟨rfl,r,D,o,rfl⟩;refine⟨rfl,?_,Touch.setCell (F:=λb=>b=g) (Touch.setCell (F:=λb=>b=g) (Touch.of_below o) (p:=Δ g (66*k+64)) (.inl rfl) _) (p:=Δ g (66*k+65)) (.inl rfl) _⟩;rw[Afz _ _ _ a,Ab5,Ajs _ _ _ a];exact h.clear q o r
def Ab6(d L:Nat)(ws:Nat->UInt64)(len:Mode)(mark:Nat->Nat)(g:Nat)(hb:Nat->Option Nat)(w:World)(H:L<=1024)(R:0<L)(r:len.lf≠0)(e:Cb w d L ws len mark g hb)
 (y:∀b,b<L->mark b=0\/mark b=len b+1)(x:∀b,b<L->len b<=1000000):
 Calls prog 88 #[Az d] w λc w'=>c=.returned (.int .i64 0)/\
  Cb w' d L ws (TC L len mark).tick (MX L mark) g (L6 L mark hb)/\Touch (Dq d L g hb) w w':=by
 obtain⟨N,k⟩:=e.box;have B:=e.lfr;rw[decide_eq_false r]at k;obtain⟨m,n,o,p,f0,f1,f2,f3⟩:=CO k;have v:=vY d L g 0 1 (.int .i64 len.lf) (.int .i64 N) w H k O U U U;have s:=Aa v;have C:=Aa e;have E:=Aa y;have D:=Aa x;clear v e k y x;go_enter func88,ntmps88
 go_wp2_with fail
 refine s.out.mono ?_;rintro c w'⟨rfl,rfl⟩;clear s
 go_wp2_with fail
 clear m n o p f0 f1 f2 f3
 go_loopw [15](λb wr=>∃a:Nat,a<=L/\b=.int .i64 a/\Cb wr d L ws (TC a len mark) (MX a mark) g (L6 a mark hb)/\Touch (λj=>j=g) w wr)(λb _=>L-(intOf b).toNat)
 case atStart=>exact⟨0,BB _,rfl,by rw[Ab4,wE,Afx];exact C.out,Touch.refl _ _⟩
 case round=>
  obtain⟨a,S,rfl,h,l⟩:=hrel;obtain⟨P,f⟩:=h.box;rw[show decide ((TC a len mark).lf=0)=false from decide_eq_false r]at f;obtain⟨m,n,o,p,f0,f1,f2,f3⟩:=CO f;by_cases q:a<L
  ·have u:=Aa (Af0 d L ws len mark g hb a wr q h (E.out a q) (D.out a q));have i:=Aa l;clear h l f
   go_wp2_with fail
   rw[show a*66=66*a by omega];refine u.out.mono ?_;rintro c Q⟨rfl,K,z⟩;have M:=i.out.trans z (λj I=>.inl I);clear u i m n o p f0 f1 f2 f3 z
   go_wp2_with fail
   go_roundw
   case rel=>exact⟨a+1,O,by go_num,K,M⟩
   case measure=>simp[intOf];omega
  ·have J:a=L:=O;subst J;have t:=Aa (UZ d g a len.lf P wr r B f);have F:=Aa h;have i:=Aa l;clear h l f
   go_wp2_with fail
   refine t.out.mono ?_;rintro c Q⟨rfl,A,T,G⟩;clear t m n o p f0 f1 f2 f3
   go_wp2_with fail
   go_ret;exact⟨rfl,F.out.step A G,(i.out.mono (λj c=>.inr (.inl c))).trans A (λj e=>.inl (.inl e))⟩
def MZ:Array Value:=(BC 64 (Aw .u8 0)++[Ac none 0 0,Aw .i64 0]).toArray
def Tryz.wF:(prog.info? 81).bind (λa=>a.zero.map (λb=>(b.cells,a.size,a.bytes)))=some (MZ,66,96):=by kernel_rfl
def wG(i:Nat):leBytes (FP (λ_=>0) i)=BC 64 0:=by
 have:FP (λ_=>0) i=BC 8 0:=by
  apply EC
  ·simp[FP]
  ·intro c a b;rw[KE,List.getElem_replicate]
 rw[this];decide
def Wn(L i k:Nat)(hi:i<L)(b:k<66):(madeCells MZ (L*66))[66*i+k]?=MZ[k]?:=by
 have a:MZ.size=66:=rfl;have:66*i+k<L*66:=O;unfold madeCells;rw[Array.getElem?_map,a];simp only[Array.getElem?_range,this,if_true,DJ];rw[show(66*i+k)%66=k by omega,getElem!_pos MZ k (by rw[a];exact b),Array.getElem?_eq_getElem (by rw[a];exact b)]
def Cb.made{w:World}{d g L:Nat}{st:Int}(e:CQ w d 70 [.slice (some (Φ g)) L L,.bool false,.int .i64 (-1),.int .i64 st])(l:g≠d)(f:w.heap[g]?=some (.cells (madeCells MZ (L*66)) 81 (0,0))):
 Cb w d L (λ_=>0) M0 (λ_=>0) g (λ_=>none):=by
 refine⟨⟨st,e⟩,by decide,l,⟨_,f,by rw[size_madeCells];omega,λi a k c=>?_,λi a=>⟨none,0,?_,?_,.inl ⟨rfl,rfl,rfl⟩⟩⟩,λi a h b=>(by cases b),λi j a n m h b=>(by cases b),λi a=>BB _⟩
 ·rw[Wn L i k a O,wG,IG,if_pos c];show(BC 64 (Aw .u8 0)++[Ac none 0 0,Aw .i64 0]).toArray[k]?=_;rw[List.getElem?_toArray,DU (by simpa using c),IG,if_pos c];rfl
 ·rw[Wn L i 64 a U];rfl
 ·rw[Wn L i 65 a U];rfl
def Af1(L:Nat)(w:World)(A:1<=L)(z:L<=1024):
 Calls prog 15 #[.int .i64 (L:Int)] w λm w'=>∃d g,m=.returned (Az d)/\
  Cb w' d L (λ_=>0) M0 (λ_=>0) g (λ_=>none)/\w.heap.size<=d/\w.heap.size<=g/\η w w'/\w'.cell? (Δ d 3)=some (.int .i64 0):=by
 obtain⟨v,e,p,r,s,t,u⟩:∃b e,prog.info? 81=some b/\b.zero=some e/\b.size=66/\b.bytes=96/\e.cells=MZ:=by
  have a:=Tryz.wF;cases k:prog.info? 81 with
  |none=>rw[k]at a;cases a
  |some b=>
   rw[k]at a;cases h:b.zero with
   |none=>simp[h]at a
   |some e=>simp[h]at a;exact⟨b,e,rfl,h,a.2.1,a.2.2,a.1⟩
 go_enter func15,ntmps15
 go_wp2_with(at_make;refine wpList_make_full _ rfl _ _ 68 rfl w.heap.size 81 v e 66 underlying68 p r s .i64 .i64 _ _ L rfl rfl rfl rfl (by rw[t];omega) (by unfold maxLen;omega) (Ad _) ?_;intro c f j)
 have n:η w c:=(Below.refl _ _).grown j (Ad _) Θ;rw[u]at f;have i:c.heap[w.heap.size]?=some (.cells (madeCells MZ (L*66)) 81 (0,0)):=by
  rcases f.2 with⟨a,_⟩|⟨g,x,y,a,_,o,_,_,B,l⟩
  ·cases a
  ·simp only[Value.slice.injEq,Option.some.injEq,Addr.mk.injEq,and_true,true_and]at a;obtain⟨rfl,rfl⟩:=a;rw[List.take_of_length_le (by rw[Array.length_toList];omega)]at l;rw[o,Array.toList_inj.1 l]
 have q:w.heap.size<c.heap.size:=(AA.1 i).1;clear j f;go_ret;refine⟨c.heap.size,w.heap.size,rfl,Cb.made (heap_alloc_new c _) O ((χ c _ q).trans i),O,Ad _,n.alloc O _,CQ.cell (heap_alloc_new c _) 3⟩
def Aaa(L:Nat)(w:World)(j:1<=L)(i:L<=1024):
 Calls prog 15 #[.int .i64 (L:Int)] w λa w'=>∃d g,a=.returned (Az d)/\
  Cb w' d L (λ_=>0) M0 (λ_=>0) g (λ_=>none)/\w.heap.size<=d/\w.heap.size<=g/\η w w':=by
 refine(Af1 L w j i).mono ?_;rintro a w'⟨d,g,b,c,e,f,h,_⟩;exact⟨d,g,b,c,e,f,h⟩
def oK(d:Nat)(off x:Int)(w:World):
 Calls prog 86 #[Az d,.int .i64 off,.int .u64 x] w λa w'=>a=.returned (.func (.func 132) #[] #[Az w.heap.size,Az (w.heap.size+1),Az (w.heap.size+1+1)])/\
  w'=((w.alloc (.cells #[Az d] 30)).alloc (.cells #[.int .i64 off] 3)).alloc (.cells #[.int .u64 x] 43):=by
 go_enter func86,ntmps86;go_wp2;go_ret;exact⟨rfl,rfl⟩
def oL(d:Nat)(off:Int)(w:World):
 Calls prog 87 #[Az d,.int .i64 off] w λa w'=>a=.returned (.func (.func 134) #[] #[Az w.heap.size,Az (w.heap.size+1)])/\
  w'=(w.alloc (.cells #[Az d] 30)).alloc (.cells #[.int .i64 off] 3):=by
 go_enter func87,ntmps87;go_wp2;go_ret;exact⟨rfl,rfl⟩
def Wp(d L g off n:Nat)(i j k:Value)(w:World)(p:1<=L)(l:L<=1024)(f:CQ w d 70 [.slice (some (Φ g)) L L,i,j,k])(o:off%8=0)(m:off+8*n<=L*64):
 Calls prog 92 #[Az d,.int .i64 (off:Int),.int .i64 (n:Int)] w λe w'=>e=.returned (.int .i64 0)/\w=w':=by
 have c:=Ot d L g i j k w l f;have b:=Aa c;obtain⟨a,h⟩:=ε (L*64);rw[<-h]at c b m;have t1:((a:Int)==0)=false:=ζ O;have t2:decide ((off:Int)<0)=false:=decide_eq_false O;have t3:decide ((a:Int)<(off:Int))=false:=decide_eq_false O;have t4:((off:Int)%8 !=0)=false:=by
  have:(off:Int)%8=0:=O;rw[this];rfl
 have t5:decide ((n:Int)<0)=false:=decide_eq_false O;have t6:decide (((a:Int) -(off:Int))/8<(n:Int))=false:=decide_eq_false O;have q:a<=65536:=O;have r:off<=a:=O;clear c f;go_enter func92,ntmps92
 go_wp2_with fail
 refine b.out.mono ?_;rintro e w'⟨rfl,rfl⟩;clear b h
 go_wp2_with fail
 go_ret;exact⟨rfl,rfl⟩
def Zg{d:Int->World->Prop}(e f g:Nat)(D:Value)(off x:Int)(w:World)(h1:w.cell? (Φ e)=some D)(j:∃c,D=.pointer c)(h2:w.cell? (Φ f)=some (.int .i64 off))(h3:w.cell? (Φ g)=some (.int .u64 x))
 (h:Calls prog 133 #[D,.int .i64 off,.int .u64 x] w λb w'=>∃a:Int,b=.returned (.int .i64 a)/\d a w'):
 Calls prog 132 #[Az e,Az f,Az g] w λb w'=>∃a:Int,b=.returned (.int .i64 a)/\d a w':=by
 obtain⟨c,rfl⟩:=j;have i:=Aa h;clear h;go_enter func132,ntmps132
 go_wp2_with fail
 refine i.out.mono ?_;rintro b w'⟨a,rfl,k⟩
 go_wp2_with fail
 go_ret;exact⟨a,rfl,k⟩
def Zh{d:Int->World->Prop}(e f:Nat)(D:Value)(off:Int)(w:World)(h1:w.cell? (Φ e)=some D)(i:∃c,D=.pointer c)(h2:w.cell? (Φ f)=some (.int .i64 off))
 (g:Calls prog 135 #[D,.int .i64 off] w λb w'=>∃a:Int,b=.returned (.int .i64 a)/\d a w'):
 Calls prog 134 #[Az e,Az f] w λb w'=>∃a:Int,b=.returned (.int .i64 a)/\d a w':=by
 obtain⟨c,rfl⟩:=i;have h:=Aa g;clear g;go_enter func134,ntmps134
 go_wp2_with fail
 refine h.out.mono ?_;rintro b w'⟨a,rfl,j⟩
 go_wp2_with fail
 go_ret;exact⟨a,rfl,j⟩
def fJ(A:Option Addr)(n c:Nat)(d:Nat->Nat)(h e:Nat->Array Value)(b:Nat->World->Prop)(m:World->Prop)(w:World)(F:n<=1000000)(o:b 0 w)
 (s:∀a,a<n->∀W,(callFunc (d a) (h a++e a)).run prog W=.ok (.enter (d a) (h a++e a)) W)
 (t:∀a W,b a W->Rd W A n ((DW n).map λa=>Aqa (.func (d a)) (h a) (e a)))
 (u:∀a W,a<n->b a W->Calls prog (d a) (h a++e a) W λf w'=>∃c:Int,f=.returned (.int .i64 c)/\((c=0/\b (a+1) w')\/(c=12/\m w'))):
 Calls prog 85 #[.slice A n c] w λf w'=>∃c:Int,f=.returned (.int .i64 c)/\((c=0/\b n w')\/(c=12/\m w')):=by
 have x:=Aa t;have y:=Aa u;have v:=Aa s;clear t u s;go_enter func85,ntmps85
 go_wp2_with fail
 go_loopw [8](λl wr=>∃a:Nat,a<=n/\l=.int .i64 a/\b a wr)(λl _=>n-(intOf l).toNat)
 case atStart=>exact⟨0,BB _,rfl,o⟩
 case round=>
  obtain⟨a,E,rfl,j⟩:=hrel;by_cases g:a<n
  ·obtain⟨D,G,rfl,hb,r⟩:=(x.out a wr j).2 O;have k:=r a g;simp only[CB,List.getElem?_range g,DJ]at k;have p:=y.out a wr g j;have i:=Aa p;have q:=v.out a g;clear r p o
   go_wp2_with fail
   refine i.out.mono ?_;rintro f H⟨c,rfl,⟨rfl,z⟩|⟨rfl,B⟩⟩
   ·clear i k q
    go_wp2_with fail
    go_roundw
    case rel=>exact⟨a+1,O,by go_num,z⟩
    case measure=>simp[intOf];omega
   ·clear i k q
    go_wp2_with fail
    go_ret;exact⟨12,rfl,.inr ⟨rfl,B⟩⟩
  ·have C:a=n:=O;subst C
   go_wp2_with fail
   go_ret;exact⟨0,rfl,.inl ⟨rfl,j⟩⟩
def Dv(w0:World)(d L g:Nat)(b:Nat->Option Nat)(ws:Nat->UInt64)(len:Mode)(mark:Nat->Nat)(W:World):Prop:=
 ∃hb,(∀a,Dq d L g hb a->Dq d L g b a\/w0.heap.size<=a)/\Cb W d L ws len mark g hb/\Touch (Dq d L g b) w0 W
def Dv.start{w0 W:World}{d L g:Nat}{b:Nat->Option Nat}{ws:Nat->UInt64}{len:Mode}{mark:Nat->Nat}(a:Cb w0 d L ws len mark g b)(hb:η w0 W):Dv w0 d L g b ws len mark W:=
 ⟨b,λ_ a=>.inl a,a.below hb,Touch.of_below hb⟩
def Af2{w0 W:World}{d L g:Nat}{o:Nat->Option Nat}{ws:Nat->UInt64}{len:Mode}{mark:Nat->Nat}(a:Dv w0 d L g o ws len mark W)(n:L<=1024)(s:len.lf≠0)(j:Nat)(x:UInt64)(q:j<8*L)(w:len (j/8)<=1000000):
 Calls prog 133 #[Az d,.int .i64 ((8*j:Nat):Int),.int .u64 (x.toNat:Int)] W λc w'=>c=.returned (.int .i64 0)/\
  ∃m:Mode,(m=len\/m=len.note (j/8) (8*(j%8),ws j))/\Dv w0 d L g o (λb=>if b=j then x else ws b) m.tick mark w':=by
 obtain⟨hb,h,r,k⟩:=a;by_cases p:ws j=x
 ·subst p;refine(vZ d L ws len mark g hb j W n s r q).mono ?_;rintro c w'⟨rfl,i,l⟩;refine⟨rfl,len,.inl rfl,hb,h,?_,k.trans l (λe a=>h e a)⟩;rw[show(λb=>if b=j then ws j else ws b)=ws by funext b;by_cases c:b=j<;>simp[c]];exact i
 ·refine(Ab2 d L ws len mark g hb j x W n s r q p w).mono ?_;rintro c w'⟨rfl,t,f,i,l⟩;refine⟨rfl,_,.inr rfl,_,λe u=>?_,i,k.trans l (λe a=>h e a)⟩;rcases u with a|a|⟨b,v,a⟩
  ·exact .inl (.inl a)
  ·exact .inl (.inr (.inl a))
  ·change(if b=j/8 then some t else hb b)=some e at a;by_cases c:b=j/8
   ·rw[if_pos c]at a;injection a with a
    subst a;rcases f with f|f
    ·exact h _ (.inr (.inr ⟨j/8,O,f⟩))
    ·exact .inr (Bi k.size f)
   ·rw[if_neg c]at a;exact h _ (.inr (.inr ⟨b,v,a⟩))
def Af3{w0 W:World}{d L g:Nat}{c:Nat->Option Nat}{ws:Nat->UInt64}{len:Mode}{mark:Nat->Nat}(a:Dv w0 d L g c ws len mark W)(i:L<=1024)(p:len.lf≠0)(off:Nat)(j:off<64*L)(k:len (off/64)<=1000001):
 Calls prog 135 #[Az d,.int .i64 (off:Int)] W λb w'=>b=.returned (.int .i64 0)/\
  Dv w0 d L g c ws len.tick (λf=>if f=off/64 then len (off/64)+1 else mark f) w':=by
 obtain⟨hb,e,l,n⟩:=a;refine(Ab3 d L ws len mark g hb off W i p l j k).mono ?_;rintro b w'⟨rfl,m,o⟩;exact⟨rfl,hb,e,m,n.trans o (λh a=>e h a)⟩
def Af4{w0 W:World}{d L g:Nat}{f:Nat->Option Nat}{ws:Nat->UInt64}{len:Mode}{mark:Nat->Nat}(a:Dv w0 d L g f ws len mark W)(i:L<=1024)(j:0<L)(s:len.lf≠0)
 (n:∀b,b<L->mark b=0\/mark b=len b+1)(m:∀b,b<L->len b<=1000000):
 Calls prog 88 #[Az d] W λc w'=>c=.returned (.int .i64 0)/\
  Dv w0 d L g f ws (TC L len mark).tick (MX L mark) w':=by
 obtain⟨hb,h,o,q⟩:=a;refine(Ab6 d L ws len mark g hb W i j s o n m).mono ?_;rintro c w'⟨rfl,p,r⟩;refine⟨rfl,_,λe k=>?_,p,q.trans r (λe a=>h e a)⟩;rcases k with a|a|⟨b,l,a⟩
 ·exact .inl (.inl a)
 ·exact .inl (.inr (.inl a))
 ·unfold L6 at a;by_cases c:b<L/\mark b≠0
  ·rw[if_pos c]at a;cases a
  ·rw[if_neg c]at a;exact h _ (.inr (.inr ⟨b,l,a⟩))
def Dv.jL{w0 W:World}{d L g:Nat}{c:Nat->Option Nat}{ws:Nat->UInt64}{len:Mode}{mark:Nat->Nat}(b:Dv w0 d L g c ws len mark W)(e:len.lf=0):∃h i,CQ W d 70 [.slice (some (Φ g)) L L,.bool true,h,i]:=by
 obtain⟨hb,j,f,k⟩:=b;obtain⟨l,a⟩:=f.box;rw[decide_eq_true e]at a;exact⟨_,_,a⟩
def Ab7(ws:Nat->UInt64)(j:Nat):BK ws j []=ws:=by
 funext i;unfold BK;rw[if_neg Θ]
def wH(ws:Nat->UInt64)(j:Nat)(xs:List UInt64)(k:Nat)(b:k<xs.length):(λa=>if a=j+k then xs[k]else BK ws j (xs.take k) a)=BK ws j (xs.take (k+1)):=by
 funext a;unfold BK;simp only[Em,NG (Nat.le_of_lt b),NG (show k+1<=xs.length from b),Bo,Dj];by_cases c:a=j+k
 ·subst c;rw[if_pos rfl,if_pos O,if_pos O,QL,Ae b];rfl
 ·rw[if_neg c];by_cases d:j<=a/\a<j+k
  ·rw[if_pos d,if_pos O,if_pos O,if_pos O]
  ·rw[if_neg d,if_neg O]
def wI(ws:Nat->UInt64)(j:Nat)(xs:List UInt64)(k q:Nat):BK ws j (xs.take k) q=ws q\/BK ws j (xs.take k) q=BK ws j xs q:=by
 unfold BK;simp only[Em,Bo,Dj];by_cases a:j<=q/\q<j+min k xs.length
 ·right;rw[if_pos a,if_pos O,if_pos O]
 ·left;rw[if_neg a]
def Ab8(ws:Nat->UInt64)(j:Nat)(x:UInt64):BK ws j [x]=D9 ws j x:=by
 funext i;unfold BK D9;by_cases a:i=j
 ·subst a;rw[if_pos Θ,if_pos rfl,Tz];rfl
 ·rw[if_neg (by simp;omega),if_neg a]
def bU(lf:Int)(k:Nat):Int:=if lf<0 then lf else lf-k
def Af5(lf:Int):bU lf 0=lf:=by unfold bU;split<;>omega
def Ajt(k:Nat):bU (-1) k= -1:=rfl
def Zi{len:Mode}{lf:Int}{k:Nat}(c:len.lf=bU lf k)(b:len.lf≠0)(d:lf<0\/(k:Int)<=lf):len.tick.lf=bU lf (k+1)/\(lf<0\/((k+1:Nat):Int)<=lf):=by
 show(if 0<len.lf then len.lf-1 else len.lf)=_/\_;rw[c]at b⊢;unfold bU at b⊢;by_cases a:lf<0
 ·simp only[if_pos a];rw[if_neg O];exact⟨rfl,.inl a⟩
 ·simp only[if_neg a]at b⊢;rw[if_pos O];exact⟨O,.inr O⟩
def Zj(ws:Nat->UInt64)(j n:Nat)(len:Mode):Prop:=∀b,∀c∈len.NC b,∃a,a<8/\c.1=8*a/\j<=8*b+a/\8*b+a<j+n/\c.2=ws (8*b+a)
def wJ(ws:Nat->UInt64)(j n:Nat)(lf:Int):Zj ws j n (MU lf):=λ_ _ a=>nomatch a
def Af6(lf:Int)(W0:World)(d L g:Nat)(hb:Nat->Option Nat)(ws:Nat->UInt64)(j:Nat)(xs:List UInt64)(N:Nat)(W:World):Prop:=
 0<=lf/\lf<N/\∃(a:Mode)(c:Nat->UInt64)(mark:Nat->Nat),a.lf=0/\(∀e,a e<=1000000)/\Zj ws j xs.length a/\(∀b,c b=ws b\/c b=BK ws j xs b)/\Dv W0 d L g hb c a mark W
def Wrote(lf:Int)(N:Nat)(W0:World)(d L g:Nat)(hb:Nat->Option Nat)(ws:Nat->UInt64)(j:Nat)(xs:List UInt64)(c:Int)(W:World):Prop:=
 (c=0/\(lf<0\/(N:Int)<=lf)/\Dv W0 d L g hb (BK ws j xs) (MU (bU lf N)) (λ_=>0) W)\/(c=12/\Af6 lf W0 d L g hb ws j xs N W)
def allI(lf:Int)(W0:World)(d L g:Nat)(hb:Nat->Option Nat)(ws:Nat->UInt64)(j:Nat)(xs:List UInt64)(m k:Nat)(W:World):Prop:=
 (lf<0\/(k:Int)<=lf)/\
 if k<=xs.length then∃a:Mode,a.lf=bU lf k/\(∀b,a b<=k)/\Zj ws j xs.length a/\Dv W0 d L g hb (BK ws j (xs.take k)) a (λ_=>0) W
 else if k<=xs.length+m then∃a:Mode,a.lf=bU lf k/\(∀b,a b<=xs.length)/\Zj ws j xs.length a/\Dv W0 d L g hb (BK ws j xs) a (λb=>if j/8<=b/\b<j/8+(k-xs.length)then a b+1 else 0) W
 else Dv W0 d L g hb (BK ws j xs) (MU (bU lf k)) (λ_=>0) W
def wK{lf:Int}{W0:World}{d L g:Nat}{hb:Nat->Option Nat}{ws:Nat->UInt64}{j:Nat}{xs:List UInt64}{m k:Nat}{W:World}(a:allI lf W0 d L g hb ws j xs m k W):Touch (Dq d L g hb) W0 W:=by
 have a:=a.2;split at a
 ·obtain⟨_,_,_,_,_,_,_,b⟩:=a;exact b
 ·split at a
  ·obtain⟨_,_,_,_,_,_,_,b⟩:=a;exact b
  ·obtain⟨_,_,_,b⟩:=a;exact b
def Zk{lf:Int}{k N:Nat}(a:bU lf k=0)(b:k<N):0<=lf/\lf<N:=by
 unfold bU at a;split at a<;>omega
section
variable{lf:Int}{W0 W:World}{d L g:Nat}{hb:Nat->Option Nat}{ws:Nat->UInt64}{j:Nat}{xs:List UInt64}{m:Nat}
def Ab9(s:L<=1024)(K:j+xs.length<=8*L)(_:∀a,j<=a->a<j+xs.length->j/8<=a/8/\a/8<j/8+m){k:Nat}(D:k<xs.length)(M:xs.length<=100000)(n:allI lf W0 d L g hb ws j xs m k W):
 Calls prog 133 #[Az d,.int .i64 ((8*(j+k):Nat):Int),.int .u64 (xs[k].toNat:Int)] W λe w'=>∃c:Int,e=.returned (.int .i64 c)/\((c=0/\allI lf W0 d L g hb ws j xs m (k+1) w')\/(c=12/\Af6 lf W0 d L g hb ws j xs (xs.length+m+1) w')):=by
 obtain⟨E,n⟩:=n;rw[if_pos O]at n;obtain⟨i,r,f,o,p⟩:=n;by_cases h:i.lf=0
 ·obtain⟨I,J,C⟩:=p.jL h;refine(Zd d L g (8*(j+k)) _ I J W O s C).mono ?_;rintro e w'⟨rfl,rfl⟩;obtain⟨v,w⟩:=Zk (N:=xs.length+m+1) (r.symm.trans h) O;exact⟨12,rfl,.inr ⟨rfl,v,w,i,_,_,h,λa=>Ω (f a),o,λH=>wI ws j xs k H,p⟩⟩
 ·refine(Af2 p s h (j+k) xs[k] O (Ω (f ((j+k)/8)))).mono ?_;rintro e w'⟨rfl,l,u,t⟩;rw[wH ws j xs k D]at t;have G:BK ws j (xs.take k) (j+k)=ws (j+k):=by unfold BK;rw[if_neg (by simp;omega)]
  rw[G]at u;have F:l.lf=i.lf/\(∀a,l a<=k+1)/\Zj ws j xs.length l:=by
   rcases u with rfl|rfl
   ·exact⟨rfl,λa=>Ω (f a),o⟩
   ·refine⟨rfl,λa=>?_,λa c b=>?_⟩
    ·rw[Mode.Rx];split
     ·have:=f ((j+k)/8);omega
     ·have:=f a;omega
    ·change c∈(if a=(j+k)/8 then i.NC ((j+k)/8)++[(8*((j+k)%8),ws (j+k))]else i.NC a)at b;split at b
     ·rename_i e;rcases List.mem_append.1 b with b|b
      ·rw[<-e]at b;exact o a c b
      ·rw[List.mem_singleton]at b;subst b;have z:8*a+(j+k)%8=j+k:=O;exact⟨(j+k)%8,O,rfl,O,O,by show ws (j+k)=_;rw[z]⟩
     ·exact o a c b
  obtain⟨q,A,B⟩:=F;obtain⟨x,y⟩:=Zi (len:=l) (q.trans r) (by rw[q];exact h) E;refine⟨0,rfl,.inl ⟨rfl,y,?_⟩⟩;rw[if_pos O];exact⟨l.tick,x,A,B,t⟩
def Aca(r:L<=1024)(H:j+xs.length<=8*L)(C:∀b,b<m->8*(j/8+b)<j+xs.length){b:Nat}(D:b<m)(J:xs.length<=100000)(off:Nat)(y:off/64=j/8+b)(e:allI lf W0 d L g hb ws j xs m (xs.length+b) W):
 Calls prog 135 #[Az d,.int .i64 (off:Int)] W λh w'=>∃f:Int,h=.returned (.int .i64 f)/\((f=0/\allI lf W0 d L g hb ws j xs m (xs.length+b+1) w')\/(f=12/\Af6 lf W0 d L g hb ws j xs (xs.length+m+1) w')):=by
 have I:=C b D;obtain⟨B,e⟩:=e;have z:∃c:Mode,c.lf=bU lf (xs.length+b)/\(∀a,c a<=xs.length)/\Zj ws j xs.length c/\Dv W0 d L g hb (BK ws j xs) c (λa=>if j/8<=a/\a<j/8+b then c a+1 else 0) W:=by
  by_cases k:b=0
  ·subst k;rw[if_pos O]at e;obtain⟨c,G,s,v,f⟩:=e;refine⟨c,G,s,v,?_⟩;rw[Nat.add_zero,List.take_length]at f;have:(λa=>if j/8<=a/\a<j/8+0 then c a+1 else 0)=λ_=>0:=by funext a;rw[if_neg O]
   rw[this];exact f
  ·rw[if_neg O,if_pos O,QL]at e;exact e
 obtain⟨c,k,n,q,o⟩:=z;by_cases i:c.lf=0
 ·obtain⟨E,F,A⟩:=o.jL i;refine(Ze d L g off E F W O r A).mono ?_;rintro h w'⟨rfl,rfl⟩;obtain⟨t,u⟩:=Zk (N:=xs.length+m+1) (k.symm.trans i) O;exact⟨12,rfl,.inr ⟨rfl,t,u,c,_,_,i,λa=>Ω (n a),q,λK=>.inr rfl,o⟩⟩
 ·refine(Af3 o r i off O (Ω (n (off/64)))).mono ?_;rintro h w'⟨rfl,p⟩;obtain⟨w,x⟩:=Zi k i B;refine⟨0,rfl,.inl ⟨rfl,x,?_⟩⟩;rw[if_neg O,if_pos O];refine⟨c.tick,w,n,q,?_⟩;rw[y]at p;have:(λl=>if l=j/8+b then c (j/8+b)+1 else if j/8<=l/\l<j/8+b then c l+1 else 0)=(λa=>if j/8<=a/\a<j/8+(xs.length+b+1-xs.length)then c a+1 else 0):=by
   funext a;by_cases h:a=j/8+b
   ·subst h;rw[if_pos rfl,if_pos O]
   ·rw[if_neg h];by_cases e:j/8<=a/\a<j/8+b
    ·rw[if_pos e,if_pos O]
    ·rw[if_neg e,if_neg O]
  rw[this]at p;exact p
def Acb(o:L<=1024)(x:0<L)(G:xs.length<=100000)(E:0<m)(F:j/8+m<=L)(A:∀a,j<=a->a<j+xs.length->j/8<=a/8/\a/8<j/8+m)(h:allI lf W0 d L g hb ws j xs m (xs.length+m) W):
 Calls prog 88 #[Az d] W λb w'=>∃e:Int,b=.returned (.int .i64 e)/\((e=0/\allI lf W0 d L g hb ws j xs m (xs.length+m+1) w')\/(e=12/\Af6 lf W0 d L g hb ws j xs (xs.length+m+1) w')):=by
 obtain⟨z,h⟩:=h;rw[if_neg O,if_pos O,QL]at h;obtain⟨c,i,l,n,k⟩:=h;by_cases f:c.lf=0
 ·obtain⟨C,D,w⟩:=k.jL f;refine(Zf d L g C D W O o w).mono ?_;rintro b w'⟨rfl,rfl⟩;obtain⟨q,r⟩:=Zk (N:=xs.length+m+1) (i.symm.trans f) O;exact⟨12,rfl,.inr ⟨rfl,q,r,c,_,_,f,λa=>Ω (l a),n,λI=>.inr rfl,k⟩⟩
 ·refine(Af4 k o x f (λa _=>?_) (λa _=>Ω (l a))).mono ?_
  ·by_cases b:j/8<=a/\a<j/8+m
   ·right;show(if _ then _ else _)=_;rw[if_pos b]
   ·left;show(if _ then _ else _)=_;rw[if_neg b]
  rintro b w'⟨rfl,p⟩;obtain⟨s,t⟩:=Zi i f z;refine⟨0,rfl,.inl ⟨rfl,t,?_⟩⟩;rw[if_neg O,if_neg O];have u:(TC L c (λa=>if j/8<=a/\a<j/8+m then c a+1 else 0)).tick=MU (bU lf (xs.length+m+1)):=by
   rw[<-s];show Mode.mk (λa=>if a<L/\(λa=>if j/8<=a/\a<j/8+m then c a+1 else 0) a≠0 then[]else c.NC a) _=Mode.mk (λ_=>[]) _;congr 1;funext a;by_cases b:j/8<=a/\a<j/8+m
   ·rw[if_pos ⟨O,by show(if _ then _ else _)≠0;rw[if_pos b];omega⟩]
   ·rw[if_neg (by rintro⟨_,i⟩;exact i (if_neg b))];cases y:c.NC a with
    |nil=>rfl
    |cons e H=>
     obtain⟨B,t1,t2,t3,t4,t5⟩:=n a e (by rw[y];exact BA ..);have:=A (8*a+B) t3 t4;exact absurd (show j/8<=a/\a<j/8+m by omega) b
  have v:MX L (λa=>if j/8<=a/\a<j/8+m then c a+1 else 0)=λ_=>0:=by
   funext a;unfold MX;by_cases b:a<L
   ·rw[if_pos b]
   ·rw[if_neg b];exact if_neg O
  rw[u,v]at p;exact p
def Dv.back{w:World}{b:Nat->UInt64}{len:Mode}{mark:Nat->Nat}(a:Dv W0 d L g hb b len mark W)(e:η w W0):Dv w d L g hb b len mark W:=by
 obtain⟨h,i,j,k⟩:=a;exact⟨h,λc a=>(i c a).imp id (λf=>Bi e.size f),j,(Touch.of_below e).trans k (λc a=>.inl a)⟩
def Wrote.back{w:World}{N:Nat}{c:Int}(i:Wrote lf N W0 d L g hb ws j xs c W)(f:η w W0):Wrote lf N w d L g hb ws j xs c W:=by
 rcases i with⟨a,b,e⟩|⟨a,b,e,p,h,mark,k,l,m,n,o⟩
 ·exact .inl ⟨a,b,e.back f⟩
 ·exact .inr ⟨a,b,e,p,h,mark,k,l,m,n,o.back f⟩
def Wrote.up{N:Nat}{c:Int}(a:Wrote (-1) N W0 d L g hb ws j xs c W):c=0/\Dv W0 d L g hb (BK ws j xs) M0 (λ_=>0) W:=by
 rcases a with⟨b,e,f⟩|⟨_,e,_⟩
 ·exact⟨b,f⟩
 ·omega
end
def Vb(l:Array Value)(W:World):(callFunc 132 l).run prog W=.ok (.enter 132 l) W:=by
 simp[callFunc,func132,Tryz.f132]
def Vd(l:Array Value)(W:World):(callFunc 134 l).run prog W=.ok (.enter 134 l) W:=by
 simp[callFunc,func134,Tryz.f134]
def Ve(l:Array Value)(W:World):(callFunc 88 l).run prog W=.ok (.enter 88 l) W:=by
 simp[callFunc,func88,Tryz.f88]
structure Stp(d:Nat)(own:Nat->Prop)(j m:Nat)(xs:List UInt64)(W0:World)(I:Nat->World->Prop)(J:World->Prop):Prop where
 start:I 0 W0
 touch:∀k W,I k W->Touch own W0 W
 store:∀k(hk:k<xs.length)W,I k W->Calls prog 133 #[Az d,.int .i64 ((8*(j+k):Nat):Int),.int .u64 (xs[k].toNat:Int)] W λe w'=>∃c:Int,e=.returned (.int .i64 c)/\((c=0/\I (k+1) w')\/(c=12/\J w'))
 flush:∀t,t<m->∀off:Nat,off/64=j/8+t->∀W,I (xs.length+t) W->Calls prog 135 #[Az d,.int .i64 (off:Int)] W λe w'=>∃c:Int,e=.returned (.int .i64 c)/\((c=0/\I (xs.length+t+1) w')\/(c=12/\J w'))
 fence:∀W,I (xs.length+m) W->Calls prog 88 #[Az d] W λe w'=>∃c:Int,e=.returned (.int .i64 c)/\((c=0/\I (xs.length+m+1) w')\/(c=12/\J w'))
def Aab{lf:Int}{W0:World}{d L g:Nat}{hb:Nat->Option Nat}{ws:Nat->UInt64}{j:Nat}{xs:List UInt64}{m:Nat}(l:0<L)(b:L<=1024)(k:Cb W0 d L ws (MU lf) (λ_=>0) g hb)(f:j+xs.length<=8*L)(c:xs.length<=100000)(n:0<m)(p:j/8+m<=L)
 (h:∀a,j<=a->a<j+xs.length->j/8<=a/8/\a/8<j/8+m)(o:∀i,i<m->8*(j/8+i)<j+xs.length):Stp d (Dq d L g hb) j m xs W0 (allI lf W0 d L g hb ws j xs m) (Af6 lf W0 d L g hb ws j xs (xs.length+m+1))where
 start:=by
  refine⟨O,?_⟩;rw[if_pos (BB _)];refine⟨MU lf,(Af5 lf).symm,λ_=>Ad _,wJ _ _ _ _,?_⟩;rw[List.take_zero,Ab7];exact Dv.start k (Below.refl _ _)
 touch _ _ hi:=wK hi
 store _ hk _ hi:=Ab9 b f h hk c hi
 flush _ ht off e _ hi:=Aca b f o ht c off e hi
 fence _ hi:=Acb b l c n p h hi
def oM{W0:World}{d L g:Nat}{a b:Value}(f:0<L)(e:L<=1024)(c:CQ W0 d 70 [.slice (some (Φ g)) L L,.bool true,a,b])(own:Nat->Prop)(j m:Nat)(xs:List UInt64):Stp d own j m xs W0 (λh W=>h=0/\W=W0) (λW=>W=W0)where
 start:=⟨rfl,rfl⟩
 touch _ _ hi:=hi.2▸Touch.refl _ _
 store h _ W hi:=by
  obtain⟨_,rfl⟩:=hi;refine(Zd d L g (8*(j+h)) _ a b W f e c).mono ?_;rintro i w'⟨rfl,rfl⟩;exact⟨12,rfl,.inr ⟨rfl,rfl⟩⟩
 flush _ _ off _ W hi:=by
  obtain⟨_,rfl⟩:=hi;refine(Ze d L g off a b W f e c).mono ?_;rintro i w'⟨rfl,rfl⟩;exact⟨12,rfl,.inr ⟨rfl,rfl⟩⟩
 fence W hi:=by
  obtain⟨_,rfl⟩:=hi;refine(Zf d L g a b W f e c).mono ?_;rintro i w'⟨rfl,rfl⟩;exact⟨12,rfl,.inr ⟨rfl,rfl⟩⟩
def Aju{own:Nat->Prop}{n:Nat->World->Prop}{o:World->Prop}(d j:Nat)(x:UInt64)(w W0:World)(z:∀b,w.heap.size<=b->¬own b)(e:Stp d own j 1 [x] W0 n o)
 (f g h i l s:Nat)(r:TypeId)(H:w.heap.size<=f)(I:w.heap.size<=g)(J:w.heap.size<=h)(K:w.heap.size<=i)(L:w.heap.size<=l)(N:w.heap.size<=s)
 (B:W0.cell? (Φ f)=some (Az d))(C:W0.cell? (Φ g)=some (.int .i64 ((8*j:Nat):Int)))(D:W0.cell? (Φ h)=some (.int .u64 (x.toNat:Int)))
 (E:W0.cell? (Φ i)=some (Az d))(F:W0.cell? (Φ l)=some (.int .i64 ((8*j:Nat):Int)))
 (t:W0.heap[s]?=some (.cells #[.func (.func 132) #[] #[Az f,Az g,Az h],.func (.func 134) #[] #[Az i,Az l],.func (.func 88) #[Az d] #[]] r (0,0))):
 Calls prog 85 #[.slice (some (Φ s)) 3 3] W0 λG w'=>∃p:Int,G=.returned (.int .i64 p)/\((p=0/\n 3 w')\/(p=12/\o w')):=by
 have m:∀{k W},n k W->∀(b:Nat)(v:Value),w.heap.size<=b->W0.cell? (Φ b)=some v->W.cell? (Φ b)=some v:=λc b v M u=>
  (Bh (a:=Φ b) ((e.touch _ _ c).block b (D8 W0 (Φ b) u) (z b M))).trans u
 refine(fJ _ 3 3 (λk=>if k=0 then 132 else if k=1 then 134 else 88)
  (λk=>if k=2 then#[Az d]else#[])
  (λk=>if k=0 then#[Az f,Az g,Az h]else if k=1 then#[Az i,Az l]else#[])
  n o W0 U e.start ?_ ?_ ?_)
 ·intro k q W
  match k,q with
  |0,_=>exact Vb _ W
  |1,_=>exact Vd _ W
  |2,_=>exact Ve _ W
 ·intro k W c;have y:=((e.touch _ _ c).block s (AA.1 t).1 (z s N)).trans t;refine⟨rfl,λ_=>⟨s,0,rfl,(AA.1 y).1,λA P=>?_⟩⟩;rw[Nat.zero_add,cell_of_row W s A _ r (0,0) y]
  match A,P with
  |0,_=>rfl
  |1,_=>rfl
  |2,_=>rfl
 ·intro k W q c
  match k,q with
  |0,_=>exact Zg f g h _ _ _ W (m c _ _ H B) ⟨_,rfl⟩ (m c _ _ I C) (m c _ _ J D) (e.store 0 Θ W c)
  |1,_=>
   exact Zh i l _ _ W (m c _ _ K E) ⟨_,rfl⟩ (m c _ _ L F) (e.flush 0 U (8*j) O W c)
  |2,_=>exact e.fence W c
def Aac{own:Nat->Prop}{e:World->Nat->World->Prop}{f:World->World->Prop}(d j:Nat)(x:UInt64)(w:World)(l:∀a,own a->a<w.heap.size)(k:∀W0,η w W0->Stp d own j 1 [x] W0 (e W0) (f W0)):
 Calls prog 50 #[Az d,.int .i64 ((8*j:Nat):Int),.int .u64 (x.toNat:Int)] w λc w'=>∃W0,η w W0/\∃b:Int,c=.returned (.int .i64 b)/\((b=0/\e W0 3 w')\/(b=12/\f W0 w')):=by
 have n:=Aa (λa(p:w.heap.size<=a)(q:own a)=>Y9 _ (BI (l a q) p));have i:=Aa k;clear l k;go_enter func50,ntmps50
 go_wp2_with fail
 refine(oK d _ _ w).mono ?_;rintro c w'⟨rfl,rfl⟩
 go_wp2_with fail
 refine(oL d _ _).mono ?_;rintro c w'⟨rfl,rfl⟩
 go_wp2_with fail
 have h:=((((((Below.refl w.heap.size w).alloc (Ad _) (.cells #[Az d] 30)).alloc Θ (.cells #[.int .i64 (8*(j:Int))] 3)).alloc (by simp;omega) (.cells #[.int .u64 (x.toNat:Int)] 43)).alloc (by simp;omega) (.cells #[Az d] 30)).alloc (by simp;omega) (.cells #[.int .i64 (8*(j:Int))] 3)).alloc (by simp;omega)
  (.cells #[.func (.func 132) #[] #[Az w.heap.size,Az (w.heap.size+1),Az (w.heap.size+1+1)],.func (.func 134) #[] #[Az (w.heap.size+1+1+1),Az (w.heap.size+1+1+1+1)],.func (.func 88) #[Az d] #[]] 180)
 refine(Aju d j x w _ n.out (i.out _ h) w.heap.size (w.heap.size+1) (w.heap.size+1+1) (w.heap.size+1+1+1) (w.heap.size+1+1+1+1) (w.heap.size+1+1+1+1+1) 180 O O O O O O ((Df _ _ _ (by first|(simp;done)|(simp;omega))).trans<|((Df _ _ _ (by first|(simp;done)|(simp;omega))).trans<|((Df _ _ _ (by first|(simp;done)|(simp;omega))).trans<|((Df _ _ _ (by first|(simp;done)|(simp;omega))).trans<|((Df _ _ _ (by first|(simp;done)|(simp;omega))).trans<|by simp))))) (by simp[Df,Jw]) (by simp[Df,Jw]) (by simp[Df,Jw]) (by simp[Df,Jw]) (by rw[show w.heap.size+1+1+1+1+1=((((((w.alloc (.cells #[Az d] 30)).alloc (.cells #[.int .i64 (8*(j:Int))] 3)).alloc (.cells #[.int .u64 (x.toNat:Int)] 43)).alloc (.cells #[Az d] 30)).alloc (.cells #[.int .i64 (8*(j:Int))] 3))).heap.size by simp];exact heap_alloc_new _ _)).mono ?_;rintro c w'⟨b,rfl,m⟩;have o:=Aa (⟨_,h,b,rfl,m⟩:∃W0,η w W0/\∃g:Int,Ending.returned (.int .i64 b)=.returned (.int .i64 g)/\((g=0/\e W0 3 w')\/(g=12/\f W0 w')));clear m h n i
 go_wp2_with fail
 go_ret;exact o.out
def Af7(lf:Int)(d L g:Nat)(hb:Nat->Option Nat)(ws:Nat->UInt64)(j:Nat)(x:UInt64)(w:World)(l:0<L)(k:L<=1024)(h:Cb w d L ws (MU lf) (λ_=>0) g hb)(n:j<8*L):
 Calls prog 50 #[Az d,.int .i64 ((8*j:Nat):Int),.int .u64 (x.toNat:Int)] w λf w'=>∃b:Int,f=.returned (.int .i64 b)/\Wrote lf 3 w d L g hb ws j [x] b w':=by
 refine(Aac d j x w h.lt (λW0 e=>Aab (m:=1) l k (h.below e) (xs:=[x]) (by simp only[BD,Dp];omega) Θ U O (λp c i=>by simp only[BD,Dp]at i;omega) (λq o=>by simp only[BD,Dp];omega))).mono ?_;rintro f w'⟨W0,e,b,rfl,a⟩;refine⟨b,rfl,Wrote.back (W0:=W0) ?_ e⟩;rcases a with⟨c,a⟩|⟨c,a⟩
 ·refine .inl ⟨c,a.1,?_⟩;have:=a.2;rw[if_neg Θ,if_neg Θ]at this;exact this
 ·exact .inr ⟨c,a⟩
def Af8(d L g j:Nat)(x:UInt64)(i k:Value)(_:Nat->Prop)(w:World)(h:0<L)(f:L<=1024)(e:CQ w d 70 [.slice (some (Φ g)) L L,.bool true,i,k]):
 Calls prog 50 #[Az d,.int .i64 ((8*j:Nat):Int),.int .u64 (x.toNat:Int)] w λa w'=>a=.returned (.int .i64 12)/\η w w':=by
 refine(Aac (own:=λ_=>False) d j x w (λ_ b=>b.elim) (λW0 hb=>oM h f (e.ξ hb) _ j 1 [x])).mono ?_;rintro a w'⟨W0,hb,l,rfl,⟨_,c,_⟩|⟨rfl,rfl⟩⟩
 ·exact absurd c U
 ·exact⟨rfl,hb⟩
def PL(ws:Nat->UInt64)(j n:Nat):List UInt64:=(DW n).map λa=>ws (j+a)
def IK(ws:Nat->UInt64)(j n k:Nat):List UInt64:=(DW n).map λa=>if a<k then ws (j+a)else 0
def dE(ws:Nat->UInt64)(j n:Nat):IK ws j n 0=BC n 0:=by
 apply EC<;>simp[IK]
def jM(ws:Nat->UInt64)(j n:Nat):IK ws j n n=PL ws j n:=by
 apply EC
 ·simp[IK,PL]
 ·intro b a c;have:b<n:=by simpa[IK]using a
  simp[IK,PL,this]
def jO(ws:Nat->UInt64)(j n k:Nat):((IK ws j n k).map wv).set k (wv (ws (j+k)))=(IK ws j n (k+1)).map wv:=by
 rw[<-List.map_set];congr 1;apply EC
 ·simp[IK]
 ·intro a c d;rw[KL];by_cases b:k=a
  ·subst b;rw[if_pos rfl];simp[IK]
  ·rw[if_neg b];have:(a<k+1)=(a<k):=by apply propext;omega
   simp[IK,this]
def jP(d L:Nat)(ws:Nat->UInt64)(len:Mode)(mark:Nat->Nat)(g:Nat)(hb:Nat->Option Nat)(j n:Nat)(w:World)(J:0<L)(o:L<=1024)(D:len.lf≠0)(f:Cb w d L ws len mark g hb)(M:j+n<=8*L):
 Calls prog 54 #[Az d,.int .i64 ((8*j:Nat):Int),.int .i64 (n:Int)] w λe w'=>∃x,e=.returned (.tuple #[x,.int .i64 0])/\
  w'.ownsRow w.heap.size 43 1 x n ((PL ws j n).map wv)/\η w w':=by
 obtain⟨H,B,E,F,G⟩:=info_parts Tryz.Jc.hi;obtain⟨Q,s⟩:=f.box;have m:=Aa (Wp d L g (8*j) n _ _ _ w O o s O O);have y:=Aa f;clear f s;go_enter func54,ntmps54
 go_wp2_with fail
 refine m.out.mono ?_;rintro e w'⟨rfl,rfl⟩;clear m
 go_wp2_with(at_make;refine wpList_make_full _ rfl _ _ 109 rfl w.heap.size 43 H (.int .u64 0) 1 underlying109 B E F .i64 .i64 _ _ n rfl rfl rfl rfl (by rw[G];omega) (by unfold maxLen;omega) (Ad _) ?_;intro I h t)
 rw[LC,<-dE ws j n]at h;have q:η w I:=(Below.refl _ _).grown t (Ad _) Θ;clear t
 go_loopw [24](λk wr=>∃a:Nat,a<=n/\k=.int .i64 a/\wr.ownsRow w.heap.size 43 1 (.slice (some (Φ w.heap.size)) n n) n ((IK ws j n a).map wv)/\η w wr)(λk _=>n-(intOf k).toNat)
 case atStart=>exact⟨0,BB _,rfl,h,q⟩
 case round=>
  obtain⟨a,N,rfl,b,c⟩:=hrel;clear h q;by_cases v:a<n
  ·have l:=Aa (UY d L ws len mark g hb (j+a) wr o D (y.out.below c) O);obtain⟨⟨R,P⟩,K⟩:=SK b v;have i:=OI (u:=wv (ws (j+a))) b v;rw[jO]at i;have A:=Aa i;have r:=c.setCell (p:=Δ w.heap.size a) (Ad _) (wv (ws (j+a)));have z:=Aa r;clear b i r c
   go_wp2_with fail
   rw[show(8*(j:Int)+8*(a:Int))=((8*(j+a):Nat):Int)by omega];refine l.out.mono ?_;rintro e S⟨rfl,rfl⟩;clear l
   go_wp2_with fail
   go_roundw
   case rel=>exact⟨a+1,O,by go_num,A.out,z.out⟩
   case measure=>simp[intOf];omega
  ·have C:a=n:=O;subst C;rw[jM]at b
   go_wp2_with fail
   go_ret2;exact⟨_,rfl,b,c⟩
def Af9(d L g j n:Nat)(l m:Value)(w:World)(q:0<L)(f:L<=1024)(b:CQ w d 70 [.slice (some (Φ g)) L L,.bool true,l,m])(y:j+n<=8*L)(z:0<n):
 Calls prog 54 #[Az d,.int .i64 ((8*j:Nat):Int),.int .i64 (n:Int)] w λa w'=>a=.returned (.tuple #[.slice none 0 0,.int .i64 12])/\η w w':=by
 obtain⟨x,r,t,u,v⟩:=info_parts Tryz.Jc.hi;have e:=Aa (Wp d L g (8*j) n _ _ _ w O f b O O);have p:=Aa b;clear b;go_enter func54,ntmps54
 go_wp2_with fail
 refine e.out.mono ?_;rintro a w'⟨rfl,rfl⟩;clear e
 go_wp2_with(at_make;refine wpList_make_full _ rfl _ _ 109 rfl w.heap.size 43 x (.int .u64 0) 1 underlying109 r t u .i64 .i64 _ _ n rfl rfl rfl rfl (by rw[v];omega) (by unfold maxLen;omega) (Ad _) ?_;intro o s i)
 have h:η w o:=(Below.refl _ _).grown i (Ad _) Θ;clear i
 go_loopw [24](λk wr=>k=.int .i64 0/\wr=o)(λk _=>0)
 case atStart=>exact⟨rfl,rfl⟩
 case round=>
  obtain⟨rfl,rfl⟩:=hrel;have c:=Aa (Wl d L g (8*j) l m wr q f (p.out.ξ h));have t1:decide ((0:Int)<(n:Int))=true:=decide_eq_true O;clear s
  go_wp2_with fail
  rw[show(8*(j:Int))=((8*j:Nat):Int)by omega];refine c.out.mono ?_;rintro a A⟨rfl,rfl⟩;clear c
  go_wp2_with fail
  go_ret2;exact⟨rfl,h⟩
def Vf(w:World)(B d:Nat)(v:Value)(j:Nat)(x:UInt64):Prop:=
 ∃a b c,v=.func (.func 132) #[] #[Az a,Az b,Az c]/\B<=a/\B<=b/\B<=c/\
  w.heap[a]?=some (.cells #[Az d] 30 (0,0))/\w.heap[b]?=some (.cells #[.int .i64 ((8*j:Nat):Int)] 3 (0,0))/\w.heap[c]?=some (.cells #[.int .u64 (x.toNat:Int)] 43 (0,0))
def Zl(w:World)(B d:Nat)(v:Value)(off:Nat):Prop:=
 ∃a b,v=.func (.func 134) #[] #[Az a,Az b]/\B<=a/\B<=b/\
  w.heap[a]?=some (.cells #[Az d] 30 (0,0))/\w.heap[b]?=some (.cells #[.int .i64 (off:Int)] 3 (0,0))
def QN(e:TypeId)(w w':World):Prop:=∀(b:Nat)(c:Array Value)(a:TypeId)(d:Nat×Nat),a≠e->w.heap[b]?=some (.cells c a d)->w'.heap[b]?=some (.cells c a d)
def QN.below{b:TypeId}{w w':World}(d:η w w'):QN b w w':=λc _ _ _ _ a=>(d.block c (AA.1 a).1).trans a
def Vf.stays{w w':World}{B d:Nat}{v:Value}{j:Nat}{x:UInt64}(i:Vf w B d v j x)(k:QN 180 w w'):Vf w' B d v j x:=by
 obtain⟨a,b,c,h,l,m,n,e,f,g⟩:=i;exact⟨a,b,c,h,l,m,n,k _ _ _ _ U e,k _ _ _ _ U f,k _ _ _ _ U g⟩
def Zl.stays{w w':World}{B d:Nat}{v:Value}{off:Nat}(g:Zl w B d v off)(k:QN 180 w w'):Zl w' B d v off:=by
 obtain⟨a,b,f,h,i,c,e⟩:=g;exact⟨a,b,f,h,i,k _ _ _ _ U c,k _ _ _ _ U e⟩
def Tryz.jQ:MS prog 228 180 .nilFunc 8:=⟨underlying228,by kernel_rfl,rfl⟩
def QN.kept{c:TypeId}{w w':World}{e n:Nat}{v:Value}{xs:List Value}(i:w.ownsRow e c 1 v n xs)(f:Kept w w' v.ownBlock):QN c w w':=by
 intro d l p o j b;refine(f.2 d (AA.1 b).1 (λhb=>?_)).trans b;rcases i.2 with⟨rfl,_⟩|⟨g,k,m,rfl,_,a,_⟩
 ·cases hb
 ·have:d=g:=by simpa[Value.ownBlock]using hb
  subst this;rw[b]at a;injection a with a
  injection a with _ h _
  exact j h
def dF(B d j:Nat)(x:UInt64)(w:World)(c:B<=w.heap.size):
 Calls prog 86 #[Az d,.int .i64 ((8*j:Nat):Int),.int .u64 (x.toNat:Int)] w λb w'=>∃a,b=.returned a/\Vf w' B d a j x/\a.oneCell'=true/\η w w':=by
 refine(oK d _ _ w).mono ?_;rintro b w'⟨rfl,rfl⟩;have e:(w.alloc (.cells #[Az d] 30)).heap.size=w.heap.size+1:=by simp
 have f:((w.alloc (.cells #[Az d] 30)).alloc (.cells #[.int .i64 ((8*j:Nat):Int)] 3)).heap.size=w.heap.size+1+1:=by simp
 refine⟨_,rfl,⟨w.heap.size,w.heap.size+1,w.heap.size+1+1,rfl,c,O,O,?_,?_,?_⟩,rfl,(((Below.refl _ _).alloc (Ad _) _).alloc O _).alloc O _⟩
 ·exact(χ _ _ O).trans ((χ _ _ O).trans (heap_alloc_new _ _))
 ·refine(χ _ _ O).trans ?_;rw[<-e];exact heap_alloc_new _ _
 ·rw[<-f];exact heap_alloc_new _ _
def dG(B d off:Nat)(w:World)(c:B<=w.heap.size):
 Calls prog 87 #[Az d,.int .i64 (off:Int)] w λb w'=>∃a,b=.returned a/\Zl w' B d a off/\a.oneCell'=true/\η w w':=by
 refine(oL d _ w).mono ?_;rintro b w'⟨rfl,rfl⟩;have e:(w.alloc (.cells #[Az d] 30)).heap.size=w.heap.size+1:=by simp
 refine⟨_,rfl,⟨w.heap.size,w.heap.size+1,rfl,c,O,?_,?_⟩,rfl,((Below.refl _ _).alloc (Ad _) _).alloc O _⟩
 ·exact(χ _ _ O).trans (heap_alloc_new _ _)
 ·rw[<-e];exact heap_alloc_new _ _
def Zm:Value->Array Value
 | .func _ _ a=>a
 |_=> #[]
def wL{own:Nat->Prop}{s:Nat->World->Prop}{x:World->Prop}(d j m:Nat)(xs:List UInt64)(w W0:World)(J:∀b,w.heap.size<=b->¬own b)(i:Stp d own j m xs W0 s x)(Y:xs.length+m<1000000)
 (S:List Value)(H:∀a v K,a<xs.length->S[a]?=some v->xs[a]?=some K->Vf W0 w.heap.size d v (j+a) K)(I:∀a v,a<m->S[xs.length+a]?=some v->Zl W0 w.heap.size d v (64*(j/8+a)))
 (q:S[xs.length+m]?=some (.func (.func 88) #[Az d] #[]))(N:S.length=xs.length+m+1)
 (A:Option Addr)(c:Nat)(U:Rd W0 A (xs.length+m+1) S)(L:∀t,A=some t->w.heap.size<=t.block):
 Calls prog 85 #[.slice A ((xs.length+m+1:Nat)) c] W0 λg w'=>∃c:Int,g=.returned (.int .i64 c)/\((c=0/\s (xs.length+m+1) w')\/(c=12/\x w')):=by
 have r:∀{k W},s k W->∀(b:Nat)(z:Array Value)(a:TypeId),w.heap.size<=b->W0.heap[b]?=some (.cells z a (0,0))->W.heap[b]?=some (.cells z a (0,0)):=λf b z a Q u=>
  ((i.touch _ _ f).block b (AA.1 u).1 (J b Q)).trans u
 have p:∀{W:World}{b:Nat}{v:Value}{a:TypeId},W.heap[b]?=some (.cells #[v] a (0,0))->W.cell? (Φ b)=some v:=λu=>by rw[cell_of_row _ _ 0 _ _ (0,0) u];rfl
 refine(fJ A (xs.length+m+1) c (λk=>if k<xs.length then 132 else if k<xs.length+m then 134 else 88)
  (λk=>if k=xs.length+m then#[Az d]else#[]) (λk=>Zm (S.getD k .nilFunc)) s x W0 O i.start ?_ ?_ ?_)
 ·intro k P W;by_cases h:k<xs.length
  ·simp only[if_pos h];exact Vb _ W
  ·by_cases B:k<xs.length+m
   ·simp only[if_neg h,if_pos B];exact Vd _ W
   ·simp only[if_neg h,if_neg B];exact Ve _ W
 ·intro k W f;have T:Rd W A (xs.length+m+1) S:=U.touch (i.touch _ _ f) (λt g R=>J _ (L t g) R);have M:S=(DW (xs.length+m+1)).map λk=>Aqa (.func (if k<xs.length then 132 else if k<xs.length+m then 134 else 88)) (if k=xs.length+m then#[Az d]else#[]) (Zm (S.getD k .nilFunc)):=by
   apply EC
   ·simp[N]
   ·intro a h B;rw[List.getElem_map,List.getElem_range,Bo,Ae h];by_cases e:a<xs.length
    ·obtain⟨l,n,G,g,_⟩:=H a _ _ e (Ae h) (Ae e);rw[if_pos e,if_neg O,g];rfl
    ·by_cases o:a<xs.length+m
     ·obtain⟨l,n,g,_⟩:=I (a-xs.length) S[a] O (by rw[show xs.length+(a-xs.length)=a by omega];exact Ae h);rw[if_neg e,if_pos o,if_neg O,g];rfl
     ·have y:a=xs.length+m:=O;subst y;rw[Ae h]at q;injection q with q
      rw[if_neg e,if_neg o,if_pos rfl,q];rfl
  rw[<-M];exact T
 ·intro k W P f;by_cases e:k<xs.length
  ·obtain⟨l,n,G,g,E,F,X,C,D,V⟩:=H k _ _ e (Ae O) (Ae e);simp only[if_pos e,if_neg (show¬k=xs.length+m by omega),Bo,Ae (show k<S.length by omega),P9,g,Zm];exact Zg l n G _ _ _ W (p (r f _ _ _ E C)) ⟨_,rfl⟩ (p (r f _ _ _ F D)) (p (r f _ _ _ X V)) (i.store k e W f)
  ·by_cases o:k<xs.length+m
   ·obtain⟨l,n,g,E,F,C,D⟩:=I (k-xs.length) S[k] O (by rw[show xs.length+(k-xs.length)=k by omega];exact Ae O);simp only[if_neg e,if_pos o,if_neg (show¬k=xs.length+m by omega),Bo,Ae (show k<S.length by omega),P9,g,Zm];have:=i.flush (k-xs.length) O (64*(j/8+(k-xs.length))) O W (by rw[show xs.length+(k-xs.length)=k by omega];exact f);rw[show xs.length+(k-xs.length)+1=k+1 by omega]at this;exact Zh l n _ _ W (p (r f _ _ _ E C)) ⟨_,rfl⟩ (p (r f _ _ _ F D)) this
   ·have y:k=xs.length+m:=O;subst y;simp only[if_neg e,if_neg o,if_true,Bo,q,P9,Zm];exact i.fence W f
def Zn{own:Nat->Prop}{V:World->Nat->World->Prop}{W:World->World->Prop}(d L g:Nat)(bh K S:Value)(j n c:Nat)(A:Option Addr)(xs:List UInt64)(w:World)(bl:0<L)(a8:L<=1024)(av:CQ w d 70 [.slice (some (Φ g)) L L,bh,K,S])(aE:∀y,own y->y<w.heap.size)(bq:j+n<=8*L)(bw:0<n)(ac:Ws w A n xs)
 (v:∀W0,η w W0->Stp d own j ((j+n-1)/8-j/8+1) xs W0 (V W0) (W W0)):
 Calls prog 79 #[Az d,.int .i64 ((8*j:Nat):Int),.slice A n c] w λl w'=>∃W0,η w W0/\∃c:Int,l=.returned (.int .i64 c)/\((c=0/\V W0 (n+((j+n-1)/8-j/8+1)+1) w')\/(c=12/\W W0 w')):=by
 have aL:=Aa (λy(e:w.heap.size<=y)(k:own y)=>Y9 _ (BI (aE y k) e));have al:=Aa (Wp d L g (8*j) n _ _ _ w O a8 av O O);have bc:=ac.len;have a3:=Aa ac;obtain⟨m,aD,bt,az,aB⟩:∃m,m=(j+n-1)/8-j/8+1/\0<m/\(∀o,j<=o->o<j+n->j/8<=o/8/\o/8<j/8+m)/\(∀a,a<m<->8*(j/8+a)<j+n):=⟨(j+n-1)/8-j/8+1,rfl,O,λo e k=>O,λa=>O⟩;have t9:decide ((0:Int)<(n:Int))=true:=decide_eq_true O;rw[<-aD]at v⊢;have af:=Aa v;clear aD v;have bj:=Aa az;have X:=Aa aB;clear av ac az aB aE;go_enter func79,ntmps79
 go_wp2_with fail
 refine al.out.mono ?_;rintro l w'⟨rfl,rfl⟩;clear al
 go_wp2_with fail
 have an:η w (w.alloc (.cells #[] 180)):=(Below.refl _ _).alloc (Ad _) _;have ao:(w.alloc (.cells #[] 180)).ownsRow w.heap.size 180 1 (.slice (some (Φ w.heap.size)) 0 0) 0 []:=World.ownsRow_made w #[] 0 (Ad _) U rfl
 go_loopw [8,24](λb o wr=>∃h q,h<=n/\o=.int .i64 (h:Nat)/\wr.ownsRow w.heap.size 180 1 b h q/\(∀a b i,q[a]?=some b->xs[a]?=some i->Vf wr w.heap.size d b (j+a) i)/\η w wr)(λ_ o _=>n-(intOf o).toNat)
 case atStart=>exact⟨0,[],BB _,rfl,ao,by simp,an⟩
 case round=>
  obtain⟨h,q,br,rfl,B,v,z⟩:=hrel;clear ao an;by_cases bd:h<n
  ·obtain⟨ba,bk,bA,rfl,bm,bo⟩:=(a3.out.below z).at bd
   go_wp2_with fail
   rw[show(8*(j:Int)+8*(h:Int))=((8*(j+h):Nat):Int)by omega];refine(dF w.heap.size d (j+h) xs[h] wr z.size).mono ?_;rintro l x⟨K,rfl,J,e,s⟩;obtain⟨F,t,rfl⟩:∃F t,K=.func F #[] t:=by obtain⟨_,_,_,l,_⟩:=J;exact⟨_,_,l⟩
   have G:=own_below B s;have I:η w x:=τ z s;have ap:∀a b i,q[a]?=some b->xs[a]?=some i->Vf x w.heap.size d b (j+a) i:=λa b i e k=>(v a b i e k).stays (QN.below s)
   have a0:=Aa ap;have Z:q.length=h:=by simpa using B.1
   clear v z B s ap
   go_wp2_with(at_builtin;go_loud(refine II rfl (.tmp 29) (.tmp 37) 228 rfl Tryz.jQ x w.heap.size u8 h q [.func F #[] t] rfl G rfl rfl rfl rfl 1 1 rfl rfl (by simpa using e) (by simp;omega) U I.size ?_);intro S ad C D E)
   have u:=QN.kept G E;go_roundw
   case rel=>
    refine⟨h+1,q++[.func F #[] t],O,by go_num,C,λa b i e k=>?_,I.trans D⟩;by_cases l:a<q.length
    ·rw[DU l]at e;exact(a0.out a b i e k).stays u
    ·have bg:a=h:=by
      have:=(List.getElem?_eq_some_iff.1 e).1;simp at this;omega
     subst bg;rw[Eg O,Z,Tz]at e;rw[Ae ba]at k;simp at e k;subst e k;exact J.stays u
   case measure=>simp[intOf];omega
  ·have bb:h=n:=O;subst bb;have ah:=Aa v;have Z:q.length=h:=by simpa using B.1
   clear v
   go_wp2_with fail
   rw[show(8*(j:Int)/64*64)=((64*(j/8+0):Nat):Int)by omega]
   go_loopw [8,12](λb o T=>∃a p,a<=m/\o=.int .i64 ((64*(j/8+a):Nat):Int)/\T.ownsRow w.heap.size 180 1 b (h+a) p/\(∀f b i,f<h->p[f]?=some b->xs[f]?=some i->Vf T w.heap.size d b (j+f) i)/\(∀f b,f<a->p[h+f]?=some b->Zl T w.heap.size d b (64*(j/8+f)))/\η w T)(λ_ o _=>8*(j+h)+64-(intOf o).toNat)
   case atStart=>exact⟨0,q,BB _,rfl,B,λf b i _ e k=>ah.out f b i e k,λf b Y=>absurd Y O,z⟩
   case round=>
    obtain⟨a,p,bx,rfl,H,Q,R,P⟩:=hrel;clear B z ah Z;have aq:p.length=h+a:=by simpa using H.1
    have bs:h+a<=20000:=by
     have:=X.out (a-1);omega
    by_cases aw:a<m
    ·have a7:=(X.out a).1 aw;have t1:decide (((64*(j/8+a):Nat):Int)<8*(j:Int)+8*(h:Int))=true:=decide_eq_true O;generalize ar:64*(j/8+a)=a4 at*;have M:=Aa Q;have N:=Aa R;clear Q R
     go_wp2_with fail
     refine(dG w.heap.size d a4 wr P.size).mono ?_;rintro l x⟨K,rfl,J,e,s⟩;obtain⟨F,t,rfl⟩:∃F t,K=.func F #[] t:=by obtain⟨_,_,l,_⟩:=J;exact⟨_,_,l⟩
     have G:=own_below H s;have I:η w x:=τ P s;have a1:Hid (∀f b i,f<h->p[f]?=some b->xs[f]?=some i->Vf x w.heap.size d b (j+f) i):=Aa (λf b i r e k=>(M.out f b i r e k).stays (QN.below s));have a2:Hid (∀f b,f<a->p[h+f]?=some b->Zl x w.heap.size d b (64*(j/8+f))):=Aa (λf b r e=>(N.out f b r e).stays (QN.below s));clear H s M N
     go_wp2_with(at_builtin;go_loud(refine II rfl (.tmp 56) (.tmp 60) 228 rfl Tryz.jQ x w.heap.size u8 (h+a) p [.func F #[] t] rfl G rfl rfl rfl rfl 1 1 rfl rfl (by simpa using e) (by simp;omega) U I.size ?_);intro S ad C D E)
     have u:=QN.kept G E;refine⟨⟨_,_,_,_,_,_,_,_,_,_,_,_,_,?_,rfl⟩,?_⟩
     ·refine⟨a+1,p++[.func F #[] t],O,by rw[<-ar];go_num,by rw[<-Nat.add_assoc];exact C,λf b i r e k=>?_,λf b r e=>?_,I.trans D⟩
      ·rw[DU O]at e;exact(a1.out f b i r e k).stays u
      ·by_cases l:f=a
       ·subst l;rw[Eg O,aq,Tz]at e;simp at e;subst e;rw[ar];exact J.stays u
       ·rw[DU O]at e;exact(a2.out f b O e).stays u
     ·simp[intOf];omega
    ·have aM:a=m:=O;subst aM;have a7:¬8*(j/8+a)<j+h:=λY=>aw ((X.out a).2 Y)
     have t1:decide (((64*(j/8+a):Nat):Int)<8*(j:Int)+8*(h:Int))=false:=decide_eq_false O;have M:=Aa Q;have N:=Aa R;clear Q R
     go_wp2_with(at_builtin;go_loud(refine II rfl (.tmp 62) (.tmp 65) 228 rfl Tryz.jQ wr w.heap.size u8 (h+a) p [.func (.func 88) #[Az d] #[]] rfl H rfl rfl rfl rfl 1 1 rfl rfl (by intro bB aH;simp at aH;subst aH;rfl) (by simp;omega) U P.size ?_);intro S ad C D E)
     have u:=QN.kept H E;obtain⟨bi,a5,rfl,bp,be⟩:=CS C;obtain⟨a6,rfl,a9,_⟩:=Om C O;have ab:=P.trans D;subst bc;refine(wL d j a xs w ad aL.out (af.out _ ab) O (p++[.func (.func 88) #[Az d] #[]])
      (λf b i r e k=>?_) (λf b r e=>?_) ?_ (by simp;omega) (some (Φ a6)) a5 be (λf aa=>by injection aa with aa;subst aa;exact a9)).mono ?_
     ·rw[DU O]at e;exact(M.out f b i r e k).stays u
     ·rw[DU O]at e;exact(N.out f b r e).stays u
     ·rw[Eg O,aq,Tz];rfl
     rintro l w'⟨am,rfl,aG⟩;have aR:=Aa (⟨_,ab,am,rfl,aG⟩:∃W0,η w W0/\∃c:Int,Ending.returned (.int .i64 am)=.returned (.int .i64 c)/\((c=0/\V W0 (xs.length+a+1) w')\/(c=12/\W W0 w')));clear aG ab af aL
     go_wp2_with fail
     go_ret;exact aR.out
def X3(lf:Int)(d L g:Nat)(hb:Nat->Option Nat)(ws:Nat->UInt64)(j n c:Nat)(A:Option Addr)(xs:List UInt64)(w:World)(k:0<L)(i:L<=1024)(e:Cb w d L ws (MU lf) (λ_=>0) g hb)(p:j+n<=8*L)(q:0<n)(m:Ws w A n xs):
 Calls prog 79 #[Az d,.int .i64 ((8*j:Nat):Int),.slice A n c] w λh w'=>∃c:Int,h=.returned (.int .i64 c)/\Wrote lf (n+((j+n-1)/8-j/8+1)+1) w d L g hb ws j xs c w':=by
 obtain⟨u,o⟩:=e.box;have l:=m.len;refine(Zn d L g _ _ _ j n c A xs w k i o e.lt p q m (λW0 f=>Aab k i (e.below f) O O O O (λt b r=>O) (λv s=>O))).mono ?_;rintro h w'⟨W0,f,c,rfl,a⟩;refine⟨c,rfl,Wrote.back (W0:=W0) ?_ f⟩;rw[l]at a;rcases a with⟨b,a⟩|⟨b,a⟩
 ·refine .inl ⟨b,a.1,?_⟩;have:=a.2;rw[l,if_neg O,if_neg O]at this;exact this
 ·exact .inr ⟨b,a⟩
def oO(d L g j n c:Nat)(A:Option Addr)(xs:List UInt64)(m o:Value)(w:World)(f:0<L)(e:L<=1024)(b:CQ w d 70 [.slice (some (Φ g)) L L,.bool true,m,o])(i:j+n<=8*L)(k:0<n)(l:Ws w A n xs):
 Calls prog 79 #[Az d,.int .i64 ((8*j:Nat):Int),.slice A n c] w λa w'=>a=.returned (.int .i64 12)/\η w w':=by
 refine(Zn (own:=λ_=>False) d L g _ _ _ j n c A xs w f e b (λ_ h=>h.elim) i k l (λW0 hb=>oM f e (b.ξ hb) _ j _ xs)).mono ?_;rintro a w'⟨W0,hb,c,rfl,⟨_,p,_⟩|⟨rfl,rfl⟩⟩
 ·omega
 ·exact⟨rfl,hb⟩
def wM(d L g:Nat)(hb:Nat->Option Nat)(ws:Nat->UInt64)(j n c:Nat)(A:Option Addr)(xs:List UInt64)(w:World)(f:0<L)(e:L<=1024)(b:Cb w d L ws M0 (λ_=>0) g hb)(i:j+n<=8*L)(k:0<n)(m:Ws w A n xs):
 Calls prog 79 #[Az d,.int .i64 ((8*j:Nat):Int),.slice A n c] w λa w'=>a=.returned (.int .i64 0)/\Dv w d L g hb (BK ws j xs) M0 (λ_=>0) w':=by
 refine(X3 (-1) d L g hb ws j n c A xs w f e b i k m).mono ?_;rintro a w'⟨o,rfl,l⟩;obtain⟨rfl,h⟩:=l.up;exact⟨rfl,h⟩
def RD(w:World)(b:Nat)(xs:List UInt64):Prop:=∃c:Array Value,w.heap[b]?=some (.cells c 43 (0,0))/\∀a(d:a<xs.length),c[a]?=some (wv xs[a])
def RD.lt{w:World}{b:Nat}{xs:List UInt64}(a:RD w b xs):b<w.heap.size:=by
 obtain⟨d,c,_⟩:=a;exact(AA.1 c).1
def RD.keep{w w':World}{b:Nat}{xs:List UInt64}(c:RD w b xs)(f:w'.heap[b]?=w.heap[b]?):RD w' b xs:=by
 obtain⟨a,e,d⟩:=c;exact⟨a,f.trans e,d⟩
def RD.cell{w:World}{b:Nat}{xs:List UInt64}(c:RD w b xs)(k:Nat)(f:k<xs.length):w.cell? (Δ b k)=some (.int .u64 (xs[k].toNat:Int)):=by
 obtain⟨a,e,d⟩:=c;rw[cell_of_row w b k a _ (0,0) e,d k f];rfl
def RD.frozen{w:World}{b:Nat}{xs:List UInt64}(a:RD w b xs)(k:Nat):w.frozen? (Δ b k)=false:=by
 obtain⟨d,c,e⟩:=a;simp[GM,c]
def RD.set{w:World}{b:Nat}{xs:List UInt64}(g:RD w b xs)(k:Nat)(x:UInt64):RD (w.setCell (Δ b k) (wv x)) b (xs.set k x):=by
 obtain⟨f,h,d⟩:=g;refine⟨_,MW _ h,λe c=>?_⟩;rw[List.length_set]at c;rw[Array.getElem?_setIfInBounds,KL];by_cases a:k=e
 ·subst a;have:k<f.size:=(AA.1 (d k c)).1;rw[if_pos rfl,if_pos rfl,if_pos this]
 ·rw[if_neg a,if_neg a];exact d e c
def RD.KR{w:World}{h b n c:Nat}{xs:List UInt64}(j:w.ownsRow h 43 1 (.slice (some (Φ b)) n c) n (xs.map wv)):RD w b xs:=by
 obtain⟨k,d⟩:=j;rcases d with⟨d,_⟩|⟨q,p,i,f,r,l,v,s,t,m⟩
 ·cases d
 ·simp only[Value.slice.injEq,Option.some.injEq,Addr.mk.injEq,and_true,true_and]at f;obtain⟨rfl,rfl⟩:=f;refine⟨i,l,λg e=>?_⟩;have u:g<n:=by simpa using(by simpa using k:xs.length=n)▸e
  have a:=congrArg (λo=>o[g]?) m;simp only[Dj,CB,Ae e,DJ]at a;rw[if_pos O]at a;rw[<-Array.getElem?_toList];exact a
structure AP(F F':Nat->Prop)(w w':World):Prop where
 touch:Touch F w w'
 own:∀b,F' b->F b\/w.heap.size<=b
def AP.refl(F:Nat->Prop)(w:World):AP F F w w:=⟨Touch.refl _ _,λ_ a=>.inl a⟩
def AP.of_below{F:Nat->Prop}{w w':World}(a:η w w'):AP F F w w':=⟨Touch.of_below a,λ_ a=>.inl a⟩
def AP.trans{F F' d:Nat->Prop}{w w' e:World}(a:AP F F' w w')(k:AP F' d w' e):AP F d w e:=
 ⟨a.touch.trans k.touch (λb hb=>a.own b hb),λb hb=>(k.own b hb).elim (λc=>a.own b c) (λc=>.inr (Bi a.touch.size c))⟩
def AP.below{F F':Nat->Prop}{w w' a:World}(b:AP F F' w w')(k:η w' a):AP F F' w a:=b.trans (AP.of_below k)
def AP.set{F F':Nat->Prop}{w w':World}(a:AP F F' w w'){p:Addr}(b:F p.block\/w.heap.size<=p.block)(u:Value):AP F F' w (w'.setCell p u):=⟨a.touch.setCell b u,a.own⟩
structure Tabs(w:World):Prop where
 fours:∀j,j<16->w.cell? (Δ 0 j)=some (.int .u32 (LG.getD j 0:Nat))
 jR:∀j,j<64->w.cell? (Δ 1 j)=some (.int .u8 (Lib.deBruijn64tab.getD j 0:Nat))
def Tabs.keep{w w':World}(b:Tabs w)(h1:w'.heap[0]?=w.heap[0]?)(h2:w'.heap[1]?=w.heap[1]?):Tabs w':=
 ⟨λj a=>(Bh (w:=w) h1).trans (b.fours j a),λj a=>(Bh (w:=w) h2).trans (b.jR j a)⟩
def Tabs.lt{w:World}(a:Tabs w):0<w.heap.size/\1<w.heap.size:=
 ⟨D8 w _ (a.fours 0 U),D8 w _ (a.jR 0 U)⟩
def Tabs.below{w w':World}(a:Tabs w)(k:η w w'):Tabs w':=a.keep (k.block _ a.lt.1) (k.block _ a.lt.2)
inductive Ef where
 |up(m:Mode)
 |down(P:(Nat->UInt64)->Prop)
instance:Coe Mode Ef:=⟨.up⟩
def Qo(w:World)(d L:Nat)(P:(Nat->UInt64)->Prop)(own:Nat->Prop):Prop:=
 ∃(m:Mode)(ws:Nat->UInt64)(mark:Nat->Nat),m.lf=0/\Dev w d L ws m mark own/\(∀a,m a<=1000000)/\(∀a,∀e∈m.NC a,∃c,c<8/\e.1=8*c)/\∀b:Nat->Nat,(∀a,b a<=m a)->P (PI m b ws)
def Um(w:World)(d L:Nat)(ws:Nat->UInt64)(m:Ef)(own:Nat->Prop):Prop:=match m with
 | .up m=>Dev w d L ws m (λ_=>0) own/\m.lf≠0
 | .down a=>Qo w d L a own
def Um.rep{w:World}{d L:Nat}{ws:Nat->UInt64}{m:Ef}{own:Nat->Prop}(a:Um w d L ws m own):∃c b mark,Dev w d L c b mark own:=by
 cases m with
 |up m=>exact⟨_,_,_,a.1⟩
 |down e=>obtain⟨_,_,_,_,a,_⟩:=a;exact⟨_,_,_,a⟩
def Um.lt{w:World}{d L:Nat}{ws:Nat->UInt64}{m:Ef}{own:Nat->Prop}(a:Um w d L ws m own):∀b,own b->b<w.heap.size:=by
 obtain⟨_,_,_,a⟩:=a.rep;exact a.lt
def Um.touch{w w':World}{d L:Nat}{ws:Nat->UInt64}{m:Ef}{own F:Nat->Prop}(a:Um w d L ws m own)(c:Touch F w w')(hF:∀b,own b->¬F b):Um w' d L ws m own:=by
 cases m with
 |up m=>exact⟨a.1.touch c hF,a.2⟩
 |down h=>obtain⟨m,ws,mark,e,f,g⟩:=a;exact⟨m,ws,mark,e,f.touch c hF,g⟩
def Um.below{w w':World}{d L:Nat}{ws:Nat->UInt64}{m:Ef}{own:Nat->Prop}(a:Um w d L ws m own)(k:η w w'):Um w' d L ws m own:=a.touch (Touch.of_below (F:=λ_=>False) k) (λ_ _=>id)
def Um.box{w:World}{d L:Nat}{ws:Nat->UInt64}{m:Ef}{own:Nat->Prop}(a:Um w d L ws m own):∃g e f h,CQ w d 70 [.slice (some (Φ g)) L L,e,f,h]:=by
 obtain⟨_,_,_,g,hb,c,_⟩:=a.rep;obtain⟨i,b⟩:=c.box;exact⟨g,_,_,_,b⟩
def Um.size{w:World}{d L:Nat}{ws:Nat->UInt64}{m:Ef}{own:Nat->Prop}(b:Um w d L ws m own)(c:L<=1024):Calls prog 21 #[Az d] w λa w'=>a=.returned (.int .i64 ((L*64:Nat):Int))/\w=w':=by
 obtain⟨g,_,_,_,e⟩:=b.box;exact Ot d L g _ _ _ w c e
structure ET(len:Ef)(w:World)(d p L:Nat)(s:St)(tb hb n cT cH:Nat)(own:Nat->Prop):Prop where
 dev:Um w d L s.ws len own
 L0:0<L
 L1:L<=1024
 shape:shapeOf L=some s.sh
 box:CQ w p 111 [Az d,.int .i64 (s.sh.lines:Nat),.int .i64 (s.sh.BQ:Nat),.int .i64 (s.sh.table:Nat),.int .i64 (s.sh.data:Nat),.slice (some (Φ tb)) n cT,.slice (some (Φ hb)) n cH]
 tk:RD w tb s.tk
 hd:RD w hb s.hd
 OA:s.tk.length=n
 mX:s.hd.length=n
 bV:n=s.sh.BQ
 cT:n<=cT
 cH:n<=cH
 dp:¬own p
 dt:¬own tb
 dh:¬own hb
 pt:p≠tb
 ph:p≠hb
 th:tb≠hb
 tabs:Tabs w
 g1:¬(own 0\/0=p\/0=tb\/0=hb)
 g2:¬(own 1\/1=p\/1=tb\/1=hb)
def Ej(len:Ef)(w:World)(d p L:Nat)(s:St)(F:Nat->Prop):Prop:=
 ∃b hb f e c own,ET len w d p L s b hb f e c own/\∀a,F a<->(own a\/a=p\/a=b\/a=hb)
abbrev Sys:=Ej (.up M0)
section
variable{w w':World}{d p L:Nat}{s:St}{F:Nat->Prop}
def Ej.lt{len:Ef}(a:Ej len w d p L s F):∀b,F b->b<w.heap.size:=by
 obtain⟨i,hb,h,g,f,own,a,hF⟩:=a;intro b e;rcases(hF b).1 e with c|rfl|rfl|rfl
 ·exact a.dev.lt b c
 ·exact a.box.lt
 ·exact a.tk.lt
 ·exact a.hd.lt
def Ej.tabs{len:Ef}(a:Ej len w d p L s F):Tabs w:=by
 obtain⟨f,hb,e,c,b,own,a,hF⟩:=a;exact a.tabs
def Ej.keep{len:Ef}(a:Ej len w d p L s F){G:Nat->Prop}(e:Touch G w w')(g:∀b,F b->¬G b)(j:¬G 0)(k:¬G 1):Ej len w' d p L s F:=by
 have l:=a.lt;obtain⟨f,hb,m,i,h,own,a,hF⟩:=a;have keep:∀b,F b->w'.heap[b]?=w.heap[b]?:=λb c=>e.block b (l b c) (g b c)
 refine⟨f,hb,m,i,h,own,⟨a.dev.touch e (λb c=>g b ((hF b).2 (.inl c))),a.L0,a.L1,a.shape,(keep p ((hF p).2 (.inr (.inl rfl)))).trans a.box,a.tk.keep (keep f ((hF f).2 (.inr (.inr (.inl rfl))))),a.hd.keep (keep hb ((hF hb).2 (.inr (.inr (.inr rfl))))),a.OA,a.mX,a.bV,a.cT,a.cH,a.dp,a.dt,a.dh,a.pt,a.ph,a.th,
  a.tabs.keep (e.block _ a.tabs.lt.1 j) (e.block _ a.tabs.lt.2 k),a.g1,a.g2⟩,hF⟩
def Ej.below{len:Ef}(a:Ej len w d p L s F)(k:η w w'):Ej len w' d p L s F:=
 a.keep (Touch.of_below (F:=λ_=>False) k) (λ_ _=>id) id id
end
def Zo(L:Nat):∀a s,Oi s<=L\/s=0->Oi (JW L a s)<=L\/JW L a s=0
 |0,s,b=>b
 |a+1,s,b=>by
  unfold JW;split
  ·rename_i c;exact Zo L a (s+1) (.inl c)
  ·exact b
structure dH(L:Nat)(sh:Sh):Prop where
 BQ:0<sh.BQ
 lines:sh.lines=L
 table:sh.table=128
 data:sh.data=64*JX sh.BQ
 fits:sh.data+1024*sh.BQ<=64*L
 KT:128+8*sh.BQ<=sh.data
def IL{L:Nat}{sh:Sh}(a:shapeOf L=some sh):dH L sh:=by
 unfold shapeOf at a;split at a
 ·cases a
 ·dsimp only at a
  split at a
  ·cases a
  ·rename_i c b;injection a with a
   have:=(Zo L L 0 (.inr rfl)).resolve_right b;subst a;unfold Oi JX at this;refine⟨Nat.pos_of_ne_zero b,rfl,rfl,by simp[Nat.mul_comm],?_,?_⟩
   ·show(2+(Qj L+7)/8)*64+1024*Qj L<=64*L;unfold Qj;omega
   ·show 128+8*Qj L<=(2+(Qj L+7)/8)*64;omega
section
variable{w w':World}{d p L:Nat}{s:St}{F:Nat->Prop}
def ET.wrote{m:Ef}{o:Mode}{tb hb n cT cH g:Nat}{own:Nat->Prop}{r:Nat->Option Nat}{ws':Nat->UInt64}(b:ET m w d p L s tb hb n cT cH own)(hF:∀a,F a<->(own a\/a=p\/a=tb\/a=hb))(j:∀a,own a<->Dq d L g r a)
 (hd:Dv w d L g r ws' o (λ_=>0) w')(A:o.lf≠0):∃q,Ej o w' d p L {s with ws:=ws'} q/\AP F q w w':=by
 obtain⟨i,x,z,y⟩:=hd;have h:∀a,a<w.heap.size->¬own a->¬Dq d L g i a:=λa v l c=>(x a c).elim (λe=>l ((j a).2 e)) (λe=>O)
 have f:∀a,a<w.heap.size->¬own a->w'.heap[a]?=w.heap[a]?:=λa v l=>y.block a v (λe=>l ((j a).2 e))
 have t:¬own 0:=λc=>b.g1 (.inl c)
 have u:¬own 1:=λc=>b.g2 (.inl c)
 refine⟨λa=>Dq d L g i a\/a=p\/a=tb\/a=hb,⟨tb,hb,n,cT,cH,Dq d L g i,⟨⟨⟨g,i,z,λ_=>Iff.rfl⟩,A⟩,b.L0,b.L1,b.shape,(f p b.box.lt b.dp).trans b.box,b.tk.keep (f tb b.tk.lt b.dt),b.hd.keep (f hb b.hd.lt b.dh),b.OA,b.mX,b.bV,b.cT,b.cH,
  h p b.box.lt b.dp,h tb b.tk.lt b.dt,h hb b.hd.lt b.dh,b.pt,b.ph,b.th,b.tabs.keep (f _ b.tabs.lt.1 t) (f _ b.tabs.lt.2 u),
  λc=>c.elim (h _ b.tabs.lt.1 t) (λe=>b.g1 (.inr e)),λc=>c.elim (h _ b.tabs.lt.2 u) (λe=>b.g2 (.inr e))⟩,λ_=>Iff.rfl⟩,⟨y.mono (λa k=>(hF a).2 (.inl ((j a).2 k))),λa k=>?_⟩⟩
 rcases k with c|c
 ·exact(x a c).imp (λe=>(hF a).2 (.inl ((j a).2 e))) id
 ·exact .inl ((hF a).2 (.inr c))
def ET.cut{m:Ef}{f:Mode}{mark:Nat->Nat}{P:(Nat->UInt64)->Prop}{tb hb n cT cH g:Nat}{own:Nat->Prop}{t:Nat->Option Nat}{ws':Nat->UInt64}(b:ET m w d p L s tb hb n cT cH own)(hF:∀a,F a<->(own a\/a=p\/a=tb\/a=hb))(l:∀a,own a<->Dq d L g t a)
 (hd:Dv w d L g t ws' f mark w')(I:f.lf=0)(G:∀h,f h<=1000000)(E:∀h,∀C∈f.NC h,∃B,B<8/\C.1=8*B)(D:∀A:Nat->Nat,(∀h,A h<=f h)->P (PI f A ws'))(J:Nat->UInt64):∃r,Ej (.down P) w' d p L {s with ws:=J} r/\AP F r w w':=by
 obtain⟨k,y,H,z⟩:=hd;have j:∀a,a<w.heap.size->¬own a->¬Dq d L g k a:=λa x q c=>(y a c).elim (λe=>q ((l a).2 e)) (λe=>O)
 have i:∀a,a<w.heap.size->¬own a->w'.heap[a]?=w.heap[a]?:=λa x q=>z.block a x (λe=>q ((l a).2 e))
 have u:¬own 0:=λc=>b.g1 (.inl c)
 have v:¬own 1:=λc=>b.g2 (.inl c)
 refine⟨λa=>Dq d L g k a\/a=p\/a=tb\/a=hb,⟨tb,hb,n,cT,cH,Dq d L g k,⟨⟨f,ws',mark,I,⟨g,k,H,λ_=>Iff.rfl⟩,G,E,D⟩,b.L0,b.L1,b.shape,(i p b.box.lt b.dp).trans b.box,b.tk.keep (i tb b.tk.lt b.dt),b.hd.keep (i hb b.hd.lt b.dh),b.OA,b.mX,b.bV,b.cT,b.cH,
  j p b.box.lt b.dp,j tb b.tk.lt b.dt,j hb b.hd.lt b.dh,b.pt,b.ph,b.th,b.tabs.keep (i _ b.tabs.lt.1 u) (i _ b.tabs.lt.2 v),
  λc=>c.elim (j _ b.tabs.lt.1 u) (λe=>b.g1 (.inr e)),λc=>c.elim (j _ b.tabs.lt.2 v) (λe=>b.g2 (.inr e))⟩,λ_=>Iff.rfl⟩,⟨z.mono (λa o=>(hF a).2 (.inl ((l a).2 o))),λa o=>?_⟩⟩
 rcases o with c|c
 ·exact(y a c).imp (λe=>(hF a).2 (.inl ((l a).2 e))) id
 ·exact .inl ((hF a).2 (.inr c))
def jS{len:Mode}(a:Ej len w d p L s F)(j n:Nat)(f:j+n<=8*L):
 Calls prog 54 #[Az d,.int .i64 ((8*j:Nat):Int),.int .i64 (n:Int)] w λc w'=>∃b,c=.returned (.tuple #[b,.int .i64 0])/\
  w'.ownsRow w.heap.size 43 1 b n ((wordsAt s.ws j n).map wv)/\η w w':=by
 obtain⟨q,hb,o,l,k,own,a,hF⟩:=a;obtain⟨⟨g,e,h,m⟩,i⟩:=a.dev;exact jP d L s.ws _ _ g e j n w a.L0 a.L1 i h f
def oP{ws0 ws:Nat->UInt64}{i:Nat}(q:Nat):∀{l:List (Nat×UInt64)},(∀a∈l,a.2=ws0 (8*i+a.1/8))->Jn i l ws q=ws q\/Jn i l ws q=ws0 q
 |[],_=>.inl rfl
 |a::l,c=>by
  unfold Jn;by_cases b:q=8*i+a.1/8
  ·right;rw[if_pos b,c a (BA ..),<-b]
  ·rw[if_neg b];exact oP q (λe d=>c e (List.mem_cons_of_mem _ d))
def Half(ws b ws':Nat->UInt64):Prop:=∀a,ws' a=ws a\/ws' a=b a
def wO{ws b e:Nat->UInt64}{j n:Nat}{m:Mode}(g:Zj ws j n m)(h1:∀a,b a=ws a\/b a=e a)(d:Nat->Nat):Half ws e (PI m d b):=λa=>by
 unfold PI;rcases oP (ws0:=ws) (ws:=b) (i:=a/8) a (l:=(m.NC (a/8)).drop (d (a/8))) (λf h=>by
  obtain⟨k,t1,t2,t3,t4,t5⟩:=g (a/8) f (List.mem_of_mem_drop h);rw[t5];congr 1;omega)with c|c
 ·rw[c];exact h1 a
 ·exact .inl c
end
def Dv.dev{w w':World}{d L g:Nat}{b:Nat->Option Nat}{own:Nat->Prop}{ws':Nat->UInt64}(e:∀a,own a<->Dq d L g b a)(h:Dv w d L g b ws' M0 (λ_=>0) w'):
 ∃f,Dev w' d L ws' M0 (λ_=>0) f/\Touch own w w'/\∀a,f a->own a\/w.heap.size<=a:=by
 obtain⟨c,i,j,k⟩:=h;exact⟨Dq d L g c,⟨g,c,j,λ_=>Iff.rfl⟩,k.mono (λa hb=>(e a).2 hb),λa hb=>(i a hb).imp (e a).2 id⟩
def Zp{w:World}{d L:Nat}{ws:Nat->UInt64}{own:Nat->Prop}(i:0<L)(h:L<=1024)(f:Dev w d L ws M0 (λ_=>0) own)(j n c:Nat)(A:Option Addr)(xs:List UInt64)(m:j+n<=8*L)(o:0<n)(r:Ws w A n xs):
 Calls prog 79 #[Az d,.int .i64 ((8*j:Nat):Int),.slice A n c] w λb w'=>b=.returned (.int .i64 0)/\
  ∃e,Dev w' d L (BK ws j xs) M0 (λ_=>0) e/\Touch own w w'/\∀a,e a->own a\/w.heap.size<=a:=by
 obtain⟨g,k,q,p⟩:=f;refine(wM d L g k ws j n c A xs w i h q m o r).mono ?_;rintro b w'⟨rfl,l⟩;exact⟨rfl,l.dev p⟩
def Acd{w:World}{d L:Nat}{ws:Nat->UInt64}{own:Nat->Prop}(n:0<L)(m:L<=1024)(b:Dev w d L ws M0 (λ_=>0) own):
 Calls prog 78 #[Az d,.int .i64 0,.int .i64 (L:Int)] w λh w'=>h=.returned (.int .i64 0)/\
  ∃c,Dev w' d L (BK ws 0 (BC (8*L) 0)) M0 (λ_=>0) c/\Touch own w w'/\∀a,c a->own a\/w.heap.size<=a:=by
 obtain⟨A,r,x,y,z⟩:=info_parts Tryz.Jc.hi;have t1:decide ((L:Int)<0)=false:=by simp
 have t2:decide ((1024:Int)<(L:Int))=false:=decide_eq_false O;have k:=Aa b;clear b;go_enter func78,ntmps78
 go_wp2_with(at_make;rw[show(L:Int)*8=((8*L:Nat):Int)by omega];refine wpList_make_full _ rfl _ _ 109 rfl w.heap.size 43 A (.int .u64 0) 1 underlying109 r x y .i64 .i64 _ _ (8*L) rfl rfl rfl rfl (by rw[z];omega) (by unfold maxLen;omega) (Ad _) ?_;intro j i q)
 have e:η w j:=(Below.refl _ _).grown q (Ad _) Θ;obtain⟨g,o,u,s⟩:=k.out;have l:Dev j d L ws M0 (λ_=>0) own:=⟨g,o,u.below e,s⟩;rw[LC]at i;have f:=Zp n m l 0 (8*L) (8*L) (some (Φ w.heap.size)) (BC (8*L) 0) O O (CV i).2;rw[show((8*0:Nat):Int)=0 from rfl]at f;refine f.mono ?_;rintro h w'⟨rfl,c,p,v,t⟩
 go_wp2_with fail
 go_ret;refine⟨rfl,c,p,(Touch.of_below e).trans v (λa hb=>.inl hb),λa hb=>(t a hb).imp id (λb=>Bi e.size b)⟩
