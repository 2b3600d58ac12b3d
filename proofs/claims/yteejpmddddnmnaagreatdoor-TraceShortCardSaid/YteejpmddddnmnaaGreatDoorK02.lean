import Derived.Deep.Upon
import Derived.Lib.AppendZeros
import Derived.Shelf.Spec.TrailingZeros
import Derived.Test.YteejpmddddnmnaaGreatDoorK01
set_option linter.defProp false
set_option maxHeartbeats 32000000
set_option maxRecDepth 100000
open Go.Lib renaming hid->Ac,wpList_append_run->GL,run_eql_slice_nil->KI,ctz->ZP
open Int renaming natCast_emod->A4z,natCast_add->rP,natCast_mul->Ib,tdiv_eq_ediv_of_nonneg->Lr
open List renaming length_map->Df,length_set->Di,getElem?_eq_some_iff->Cf,length_nil->CV,getElem?_map->CP,replicate->BJ,ext_getElem->ER,getElem?_replicate->Jw,getElem?_append_left->DK,range->Ea,length_take->Cc,getD_eq_getElem?_getD->Bv,getElem?_take->Dh,getElem?_eq_getElem->Ag,take_length->I7,mem_cons_self->Bf,take_zero->Aqn,length_cons->Bg,map_set->O9,getElem_set->MX,getElem?_append_right->Ez,mem_cons_of_mem->Bi,find?_eq_none->Rt,mem_range->GH,replicate_succ->XF,set_append_right->VV,cons_append->BM,nil_append->DR,getElem?_set->H9,set_set_perm->Alb,getElem?_eq_none->FO,length_append->AO,length_singleton->EO,getElem?_cons_zero->Af
open Go.Value renaming int->AA,slice->Ad,func->Axr,ownBlock->AY
open Nat renaming zero_le->Bd,lt_of_lt_of_le->Bc,le_refl->Ae,le_trans->AZ,min_eq_left->EI,le_of_lt->Lh,add_sub_cancel_left->Ut,sub_self->Pv,zero_add->Du,lt_irrefl->Abz,mul_comm->KD,testBit_two_pow_sub_succ->lH,mod_eq_of_lt->Ho,le_of_not_lt->Aqf
open Array renaming size_setIfInBounds->IQ,getElem?_setIfInBounds->Bh,getElem?_eq_some_iff->AL
open Go.World renaming heap_setCells_other->lW,frozen?->Ij,cell?_of_block->BQ,frozen?_of_block->Asq,block_lt_of_cell?->Hq,cell?_alloc_past->D6,cell?_alloc_at->KJ
open Option renaming map_some->EX,getD_some->RV
open UInt64 renaming toNat_lt->bD,ofNat->Az,toNat_ofNat'->IX
open Go.Value renaming slice->fM,int->gz,bool->iw,tuple->iJ,agg->iK,pointer->iL
open Go.Ending renaming returned->iO
open Go.IntKind renaming i64->iU,u64->iV
open Go.Obj renaming cells->ji
open Option renaming some->jm,none->jw
open Bool renaming true->jO,false->jS
open Go renaming World->jT,Value->ku
namespace Go.Proofs.YteejpmddddnmnaaGreatDoor
open Go.RowKit
open Go.Proofs.Tryz
def Dp{w:jT}{g:Nat}{e:TypeId}{a b c d:ku}(h:Cm w g e [a,b,c,d]):
 w.cell? (Φ g)=jm a/\w.cell? (Δ g 1)=jm b/\w.cell? (Δ g 2)=jm c/\w.cell? (Δ g 3)=jm d/\
 w.frozen? (Φ g)=jS/\w.frozen? (Δ g 1)=jS/\w.frozen? (Δ g 2)=jS/\w.frozen? (Δ g 3)=false:=
 ⟨h.cell 0,h.cell 1,h.cell 2,h.cell 3,h.frozen 0,h.frozen 1,h.frozen 2,h.frozen 3⟩
def UQ(d L g:Nat)(b c e:ku)(w:jT)(f:L<=1024)(h:Cm w d 70 [fM (jm (Φ g)) L L,b,c,e]):
 Calls prog 19 #[AB d] w λa w'=>a=iO (gz iU ((L*64:Nat):Int))/\w=w':=by
 obtain⟨i,j,k,l,f0,f1,f2,f3⟩:=Dp h;go_in;go_wp2;go_ret;exact⟨by simp,rfl⟩
def Acn(d L g off a:Nat)(e f:ku)(w:jT)(j:L<=1024)(h:Cm w d 70 [fM (jm (Φ g)) L L,jS,e,f])(o:off<L*64)(m:0<a)(l:off%a=0)(n:a<=64):
 Calls prog 79 #[AB d,off,a] w λi w'=>i=iO (gz iU 0)/\w=w':=by
 obtain⟨p,q,r,s,f0,f1,f2,f3⟩:=Dp h;have c:=UQ d L g (iw jS) e f w j h;have b:=Ac c;have t1:(((L*64:Nat):Int)==0)=false:=ζ O;have t2:decide ((off:Int)<0)=false:=by simp
 have t4:((off:Int)%(a:Int)!=0)=false:=by
  have:(off:Int)%(a:Int)=((off%a:Nat):Int):=by rw[A4z]
  rw[this,l];rfl
 generalize k:L*64=N at*;clear c k h;go_in;go_wp2_with(first|(refine b.out.ro ?_)|(refine b.out.ro ?_));go_ret;exact⟨rfl,rfl⟩
def gm(d L g off i:Nat)(b c:ku)(w:jT)(l:0<L)(j:L<=1024)(h:Cm w d 70 [fM (jm (Φ g)) L L,jO,b,c]):
 Calls prog 79 #[AB d,off,i] w λf w'=>f=iO (gz iU 12)/\w=w':=by
 obtain⟨m,n,o,p,f0,f1,f2,f3⟩:=Dp h;have a:=UQ d L g (iw jO) b c w j h;have e:=Ac a;have t1:(((L*64:Nat):Int)==0)=false:=ζ O;generalize k:L*64=N at*;clear a k h;go_in;go_wp2_with(refine e.out.ro ?_);go_ret;exact⟨rfl,rfl⟩
def XZ(d L:Nat)(ws:Nat->ni)(len:Mode)(o7:Nat->Nat)(g:Nat)(hb:Nat->Option Nat)(j:Nat)(w:jT)(l:L<=1024)(m:len.lf≠0)(h:Dz w d L ws len o7 g hb)(o:j<8*L):
 Calls prog 48 #[AB d,gz iU ((8*j:Nat):Int)] w λk w'=>k=iO (iJ #[gz iV ((ws j).toNat:Int),gz iU 0])/\w=w':=by
 obtain⟨n,a⟩:=h.box;rw[decide_eq_false m]at a;obtain⟨p,q,r,s,f0,f1,f2,f3⟩:=Dp a;have f:=Acn d L g (8*j) 8 (gz iU len.lf) (gz iU n) w l a O U O U;have c:=Ac f;have i:=h.line (j/8) O;have b:=xO (jm (Δ g (66*(j/8)))) 64 64 (j%8) (Jz ws (j/8)) w U i (by rw[PG];omega);rw[PR,show 8*(j/8)+j%8=j by omega]at b;have e:=Ac b;clear f i b h a;go_in;go_wp2_with(first|(refine c.out.ro ?_;clear c)|(rw[show 8*j/64*66=66*(j/8)by omega,show 8*(j:Int)%64=((8*(j%8):Nat):Int)by omega];refine e.ro ?_;clear e));go_ret2;exact⟨rfl,rfl⟩
def oH(d L g off:Nat)(b c:ku)(w:jT)(i:0<L)(f:L<=1024)(h:Cm w d 70 [fM (jm (Φ g)) L L,jO,b,c]):
 Calls prog 48 #[AB d,off] w λe w'=>e=iO (iJ #[gz iV 0,gz iU 12])/\w=w':=by
 have a:=Ac (gm d L g off 8 b c w i f h);obtain⟨j,k,l,m,f0,f1,f2,f3⟩:=Dp h;clear h;go_in;go_wp2_with(refine a.out.ro ?_;clear a);go_ret2;exact⟨rfl,rfl⟩
def gp(d L g off:Nat)(x:Int)(b c:ku)(w:jT)(i:0<L)(f:L<=1024)(h:Cm w d 70 [fM (jm (Φ g)) L L,jO,b,c]):
 Calls prog 76 #[AB d,off,gz iV x] w λe w'=>e=iO (gz iU 12)/\w=w':=by
 have a:=Ac (oH d L g off b c w i f h);obtain⟨j,k,l,m,f0,f1,f2,f3⟩:=Dp h;clear h;go_in;go_wp2_with(refine a.out.ro ?_;clear a);go_ret;exact⟨rfl,rfl⟩
def gq(d L g off:Nat)(b c:ku)(w:jT)(i:0<L)(f:L<=1024)(h:Cm w d 70 [fM (jm (Φ g)) L L,jO,b,c]):
 Calls prog 78 #[AB d,off] w λe w'=>e=iO (gz iU 12)/\w=w':=by
 have a:=Ac (gm d L g off 1 b c w i f h);obtain⟨j,k,l,m,f0,f1,f2,f3⟩:=Dp h;clear h;go_in;go_wp2_with(refine a.out.ro ?_;clear a);go_ret;exact⟨rfl,rfl⟩
def gu(d L g:Nat)(b c:ku)(w:jT)(i:0<L)(f:L<=1024)(h:Cm w d 70 [fM (jm (Φ g)) L L,jO,b,c]):
 Calls prog 42 #[AB d] w λe w'=>e=iO (gz iU 12)/\w=w':=by
 have a:=Ac (gm d L g 0 1 b c w i f h);obtain⟨j,k,l,m,f0,f1,f2,f3⟩:=Dp h;clear h;go_in;go_wp2_with(refine a.out.ro ?_;clear a);go_ret;exact⟨rfl,rfl⟩
def Ya(d g L:Nat)(lf o:Int)(w:jT)(j:lf≠0)(s: -1<=lf/\lf<=1000000000)(h:Cm w d 70 [fM (jm (Φ g)) L L,jS,lf,o]):
 Calls prog 81 #[AB d] w λn w'=>n=iO (iJ #[])/\Touch (·=d) w w'/\
  ∃c:Int,Cm w' d 70 [fM (jm (Φ g)) L L,iw (decide ((if 0<lf then lf-1 else lf)=0)),gz iU (if 0<lf then lf-1 else lf),c]:=by
 obtain⟨q,a⟩:=ε ((if 0<lf then lf-1 else lf));rw[<-a];have f:=Ac a;have l:=Ac j;clear a j;obtain⟨t,u,v,x,f0,f1,f2,f3⟩:=Dp h;have i:=Touch.refl (·=d) w;have e:=Ac h;clear h;by_cases k:0<lf
 ·have t1:=dT (0<lf) k;have r:=wR (lf-1);have m:Hid (∀b:Int,Touch (·=d) w (((w.setCell (Δ d 3) (gz iU b)).setCell (Δ d 2) (gz iU (lf-1))).setCell (Δ d 1) (iw (lf-1==0)))/\∃c:Int,Cm (((w.setCell (Δ d 3) (gz iU b)).setCell (Δ d 2) (gz iU (lf-1))).setCell (Δ d 1) (iw (lf-1==0))) d 70 [fM (jm (Φ g)) L L,iw (decide (lf-1=0)),gz iU (lf-1),c]):=
   Ac (λb=>⟨((i.setCell (p:=Δ d 3) (.inl rfl) _).setCell (p:=Δ d 2) (.inl rfl) _).setCell (p:=Δ d 1) (.inl rfl) _,b,((e.Be 3 (gz iU b)).Be 2 (gz iU (lf-1))).Be 1 (iw (lf-1==0))⟩)
  go_in;go_wp2;go_end0;have a:=f.out;rw[kX O]at a;subst a;exact⟨rfl,m _⟩
 ·have t1:=dF (0<lf) k;go_in;go_wp2;go_end0;have a:=f.out;rw[lg O]at a;subst a;rw[decide_eq_false l.out];exact⟨rfl,i.setCell (p:=Δ d 3) (.inl rfl) _,_,e.Be 3 _⟩
def Al9(g off k:Nat)(l:List ni)(x:ni)(w:jT)(M:l.length=8)(h:Bs w (jm (Δ g off)) 64 (leBytes l))(v:∀j,j<64->w.frozen? (Δ g (off+j))=jS)(R:k<8):
 Calls prog 124 #[iL (jm (Δ g off)),gz iU ((8*k:Nat):Int),x] w λa w'=>a=iO (iJ #[])/\∃c,η w c/\w'=c.setCells g off ((leBytes (l.set k x)).map bv):=by
 have B:=aj (jm (Δ g off)) 64 64 k l x w U h O;have r:=Ac B;have A:((leBytes (l.set k x)).map bv).length=64:=by rw[Df,leBytes_length,Di,M]
 have d:=Ac A;have z:g<w:=by
  obtain⟨_,t,o,a,hb,_⟩:=h.at (show 0<64 by decide);injection a with a;injection a with a _ _;omega
 have G:Hid (∀j,j<64->(w.cell? (Δ g (off+j))).isSome=jO):=Ac (λj b=>by
  obtain⟨_,t,o,a,hb,n⟩:=h.at b;injection a with a;injection a with f i _;subst f i
  rw[n];rfl)
 have I:=Ac v;clear B A h v;go_in;go_wp2_with fail;refine r.mono ?_;rintro a c⟨e,L,rfl,E,m⟩;clear r;obtain⟨Q,F⟩:=Dk E;have u:∀j q,((leBytes (l.set k x)).map bv)[j]?=jm q->c.cell? (Δ e (0+j))=jm q:=λj q b=>by
  have N:=(Cf.1 b).1;obtain⟨t,o,a,_,n⟩:=F.2 U;injection a with a;injection a with f i _;subst f i
  rw[n j (by rw[<-d.out];exact N)];exact b
 have C:∀j,j<((leBytes (l.set k x)).map bv).length->(c.cell? (Δ g (off+j))).isSome=true:=λj b=>by
  rw[m.cell (p:=Δ g (off+j)) z];exact G j (by rw[d.out]at b;exact b)
 have y:∀j,j<((leBytes (l.set k x)).map bv).length->c.frozen? (Δ g (off+j))=false:=λj b=>by
  rw[m.frozen (p:=Δ g (off+j)) z];exact I j (by rw[d.out]at b;exact b)
 obtain⟨H,K,J⟩:=l9 u C y;have D:(prog.info? 175).map (·.size)=jm 64:=by kernel_rfl
 have s:Hid ((prog.info? 175).map (·.size)=jm ((leBytes (l.set k x)).map bv).length):=Ac (by rw[d.out];exact D);have P:∀W,(Instr.arrayAt 175 (fM (jm (Φ e)) 64 L)).run prog W=.ok (AB e) W:=λW=>by
  simp[Instr.arrayAt,run_underlying underlying175]
 clear u C y F E D;go_wp2_with(first
  |(with_reducible refine UM rfl 175 (.tmp 21) rfl e 0 rfl ((leBytes (l.set k x)).map bv) _ underlying175 rfl s.out H.out ?_)
  |(with_reducible refine bU rfl 175 (.tmp 24) (.tmp 22) rfl g off rfl ((leBytes (l.set k x)).map bv) rfl s.out K.out J.out (JW _) ?_)
  |fail)
 go_end0;exact⟨rfl,c,m,rfl⟩
def Touch.gy{F:Nat->Prop}{w w':jT}{row:Option Nat}(h:w.grownBy w' row)(hF:∀k,row=jm k->F k):Touch F w w':=
 ⟨h.os,h.tape,h.output,h.size,λa hb c=>h.block a hb (λb=>c (hF a b.symm))⟩
def fP.append{w:jT}{A:Option Addr}{i:List (Nat×ni)}{n c:Nat}{hb:Option Nat}(h:fP w A i c hb)(o:n=i.length)(m:TypeId)(b:Nat)(k:Nat×ni)(H:Cm w b 235 [gz iU (k.1:Nat),gz iV (k.2.toNat:Nat)])(X:n<=1000000):
 ∃g G w',(Builtin.append_ #[176,176] m #[fM A n c,fM (jm (Φ b)) 1 1]).run prog w=.ok (fM (jm (Φ g)) (n+1) G) w'/\
  fP w' (jm (Φ g)) (i++[k]) G (jm g)/\(hb=jm g\/g=w)/\Touch (λF=>hb=jm F) w w':=by
 obtain⟨e,r⟩:=ε (AA iU (k.1:Nat));obtain⟨f,s⟩:=ε (AA iV (k.2.toNat:Nat));have R:chV (i++[k])=chV i++[e,f]:=by rw[Af9,r,s];rfl
 have S:(i++[k]).length=n+1:=by rw[o];simp
 have Y:e.oneCell'=true:=by rw[r];rfl
 have Z:f.oneCell'=true:=by rw[s];rfl
 rw[<-r,<-s]at H;clear r s;obtain⟨a,p,t,E,u⟩:∃a,prog.info? 235=jm a/\a.zero=jm (iK #[gz iU 0,gz iV 0])/\a.size=2/\a.bytes=16:=by
  have Q:(prog.info? 235).map (λa=>(a.zero,a.size,a.bytes))=jm (jm (iK #[gz iU 0,gz iV 0]),2,16):=by kernel_rfl
  exact info_parts Q
 have D:∀j l,[e,f][j]?=jm l->w.cell? (((Φ b):Addr).add j)=jm l:=λj l q=>by
  rw[Addr.add_lit];have:=World.news_of_block H j l (by simpa using q);rw[Addr.add_lit]at this;exact this
 have B:∀l∈[e,f],l.oneCell'=true:=by
  intro l q;simp at q;rcases q with rfl|rfl<;>assumption
 unfold fP;rw[R,S];rcases h with⟨rfl,rfl,rfl⟩|⟨W,M,N,I⟩
 ·simp only[CV]at o;subst o;have J:=Src.ofSlice (P:=prog) w underlying176 (Φ b) 1 1 [e,f] (size:=a.size) (by rw[E];rfl) D B;have T:=run_append_grow_src (P:=prog) w 176 176 m 235 a _ underlying176 p t A 0 0 []
   (by cases A with
    |none=>exact run_firstCells_none w.drew a.size 0 0 0
    |some K=>exact run_firstCells_some w.drew a.size 0 K 0 0 [] Θ Θ) (fM (jm (Φ b)) 1 1) 1 [e,f] J U U (by rw[u];decide)
  have V:=run_append_grow_src (P:=prog) w 176 176 m 235 a _ underlying176 p t jw 0 0 []
   (run_firstCells_none w.drew a.size 0 0 0) (fM (jm (Φ b)) 1 1) 1 [e,f] J U U (by rw[u];decide)
  obtain⟨g,z,w',v,x,y,d,L⟩:=run_append_lies (P:=prog) w 176 m 0 235 a _ 2 16 underlying176 p t E u rfl U (fM jw 0 0) 0 [] (World.ownsRow_nil w 0 235 2) (Φ b) 1 1 [e,f] rfl D B U (by unfold maxLen;omega) O (Bd _) _ rfl;refine⟨g,z,w',(T.trans V.symm).trans v,.inr ⟨g,rfl,rfl,x⟩,?_,Touch.gy y (λF C=>by cases C)⟩;rcases d with d|d
  ·cases d
  ·exact .inr d
 ·subst M N;rw[<-o]at I;obtain⟨g,z,w',v,x,y,d,L⟩:=run_append_lies (P:=prog) w 176 m 0 235 a _ 2 16 underlying176 p t E u rfl U _ n (chV i) I (Φ b) 1 1 [e,f] rfl D B U (by unfold maxLen;omega) O (Bd _) _ rfl;refine⟨g,z,w',v,.inr ⟨g,rfl,rfl,x⟩,?_,Touch.gy y (λF C=>C)⟩;rcases d with d|d
  ·left;exact d
  ·right;exact d
section
variable{w:jT}{d L:Nat}{ws:Nat->ni}{len:Mode}{o7:Nat->Nat}{g:Nat}{hb:Nat->Option Nat}
def GR{w:jT}{g i:Nat}{cur:Array ku}{e:TypeId}{a:Nat×Nat}(v:ku)(h:w.heap[g]?=jm (ji cur e a)):(w.setCell (Δ g i) v).heap[g]?=jm (ji (cur.setIfInBounds i v) e a):=by
 simp[World.setCell,Array.getElem?_modify,h]
def Dz.glt(h:Dz w d L ws len o7 g hb):g<w:=h.lt g (.inr (.inl rfl))
def Dz.dlt(h:Dz w d L ws len o7 g hb):d<w:=h.lt d (.inl rfl)
def Dz.step(h:Dz w d L ws len o7 g hb){w':jT}(t:Touch (·=d) w w'){k:Int}(p:Cm w' d 70 [fM (jm (Φ g)) L L,iw (decide (len.tick.lf=0)),len.tick.lf,k]):Dz w' d L ws len.tick o7 g hb:=by
 have j:∀a,a<w.heap.size->a≠d->w'.heap[a]?=w.heap[a]?:=λa e b=>t.block a e b
 obtain⟨cur,r,s,n,o⟩:=h.blk;refine⟨⟨k,p⟩,?_,h.gd,⟨cur,(j g h.glt h.gd).trans r,s,n,λi f=>?_⟩,h.bd,h.inj,h.mrk⟩
 ·have:=h.lfr;show-1<=(if 0<len.lf then len.lf-1 else len.lf)/\(if 0<len.lf then len.lf-1 else len.lf)<=1000000000;split<;>omega
 ·obtain⟨A,c,l,m,q⟩:=o i f;exact⟨A,c,l,m,q.keep (λa b e=>j a e (h.bd i f a b).2)⟩
def Dz.grow(h:Dz w d L ws len o7 g hb){i:Nat}(hi:i<L){o:jT}(t:Touch (λk=>hb i=jm k) w o){f r:Nat}{p:Nat×ni}(I:fP o (jm (Φ f)) (len.bQ i++[p]) r (jm f))(x:hb i=jm f\/w<=f):
 Dz (o.setCell (Δ g (66*i+64)) (fM (jm (Φ f)) (len i+1) r)) d L ws (len.note i p) o7 g (λk=>if k=i then jm f else hb k):=by
 have S:(len.note i p).bQ i=len.bQ i++[p]:=kX rfl;have T:∀k,k≠i->(len.note i p).bQ k=len.bQ k:=λk a=>lg a
 have X:=h.glt;have B:=h.dlt;have y:∀b,b≠g->(o.setCell (Δ g (66*i+64)) (fM (jm (Φ f)) (len i+1) r)).heap[b]?=o.heap[b]?:=λb e=>Below.heap_setCell o (Δ g (66*i+64)) _ b e
 have R:¬hb i=jm g:=λa=>(h.bd i hi g a).1 rfl
 have Q:¬hb i=jm d:=λa=>(h.bd i hi d a).2 rfl
 have F:f≠g/\f≠d:=by
  rcases x with a|a
  ·exact h.bd i hi f a
  ·exact⟨O,O⟩
 obtain⟨st,H⟩:=h.box;obtain⟨cur,K,U,D,E⟩:=h.blk;have M:=(t.block g X R).trans K;refine⟨⟨st,(y d (λa=>h.gd a.symm)).trans ((t.block d B Q).trans H)⟩,h.lfr,h.gd,⟨_,GR _ M,by rw[IQ];exact U,λj l k N=>?_,λj l=>?_⟩,?_,?_,?_⟩
 ·rw[Bh,lg O];exact D j l k N
 ·obtain⟨A,c,C,z,J⟩:=E j l;by_cases a:j=i
  ·subst a;refine⟨jm (Φ f),r,?_,?_,?_⟩
   ·rw[Bh,kX rfl,kX O,Mode.UL,kX rfl]
   ·rw[Bh,lg O];exact z
   ·rw[S,kX rfl];exact I.keep (λb e _=>y b (by injection e with e;omega))
  ·refine⟨A,c,?_,?_,?_⟩
   ·rw[Bh,lg O,Mode.UL,lg a];exact C
   ·rw[Bh,lg O];exact z
   ·rw[T _ a,lg a];exact J.keep (λb e P=>(y b (h.bd j l b e).1).trans (t.block b P (h.inj i j hi l (λW=>a W.symm) b · e)))
 ·intro j l b e;by_cases a:j=i
  ·rw[kX a]at e;injection e with e;subst e;exact F
  ·rw[lg a]at e;exact h.bd j l b e
 ·intro q b v e G V m;by_cases s:q=i<;>by_cases u:b=i
  ·omega
  ·rw[kX s]at m;rw[lg u];injection m with m;subst m
   intro n;rcases x with a|a
   ·exact h.inj b i e hi u f n a
   ·have:=h.lt f (.inr (.inr ⟨b,e,n⟩));omega
  ·rw[lg s]at m;rw[kX u];intro n;injection n with n;subst n
   rcases x with a|a
   ·exact h.inj q i v hi s f m a
   ·have:=h.lt f (.inr (.inr ⟨q,v,m⟩));omega
  ·rw[lg s]at m;rw[lg u];exact h.inj q b v e G V m
 ·intro j l;have:=h.mrk j l;by_cases a:j=i
  ·subst a;rw[Mode.UL,kX rfl];omega
  ·rw[Mode.UL,lg a];exact this
def Dz.put(h:Dz w d L ws len o7 g hb){i k:Nat}(hi:i<L)(p:k<8)(x:ni):
 Dz (w.setCells g (66*i) ((leBytes ((Jz ws i).set k x)).map bv)) d L (λj=>if j=8*i+k then x else ws j) len o7 g hb:=by
 have q:((leBytes ((Jz ws i).set k x)).map bv).length=64:=by rw[Df,leBytes_length,Di,PG]
 have o:∀b,b≠g->b<w->(w.setCells g (66*i) ((leBytes ((Jz ws i).set k x)).map bv)).heap[b]?=w.heap[b]?:=λb m n=>lW w g _ _ n m
 obtain⟨st,C⟩:=h.box;obtain⟨cur,E,r,z,B⟩:=h.blk;obtain⟨u,s,t,e⟩:=FK g _ _ ((leBytes ((Jz ws i).set k x)).map bv) (66*i) w cur E (by rw[q,r];omega);rw[q]at e;refine⟨⟨st,(o d (λf=>h.gd f.symm) h.dlt).trans C⟩,h.lfr,h.gd,⟨u,s,by rw[t];exact r,λa l j F=>?_,λa l=>?_⟩,h.bd,h.inj,h.mrk⟩
 ·rw[e];by_cases f:a=i
  ·subst f;rw[kX O,show 66*a+j-66*a=j by omega,Ah2 ws a k x p,CP]
  ·rw[lg O,xQ ws i a k x p f];exact z a l j F
 ·obtain⟨A,c,v,y,D⟩:=B a l;refine⟨A,c,?_,?_,D.keep (λb m n=>o b (h.bd a l b m).1 n)⟩
  ·rw[e,lg O];exact v
  ·rw[e,lg O];exact y
end
def Touch.setCells{F:Nat->Prop}{w w':jT}(h:Touch F w w'){g o:Nat}{vs:List ku}(e:F g\/w<=g):Touch F w (w'.setCells g o vs):=by
 refine⟨?_,?_,?_,?_,λb hb a=>?_⟩
 ·rw[FM];exact h.os
 ·rw[EC];exact h.tape
 ·rw[Ec];exact h.output
 ·rw[setCells_size];exact h.size
 ·rw[lW w' g o vs (Bc hb h.size) (λc=>e.elim (λd=>a (c▸d)) (λf=>O))];exact h.block b hb a
def Dz.below{w w':jT}{d L:Nat}{ws:Nat->ni}{len:Mode}{o7:Nat->Nat}{g:Nat}{hb:Nat->Option Nat}(h:Dz w d L ws len o7 g hb)(k:η w w'):Dz w' d L ws len o7 g hb:=
 h.keep (λa _ b=>k.block a b)
def Aco(d L:Nat)(ws:Nat->ni)(len:Mode)(o7:Nat->Nat)(g:Nat)(hb:Nat->Option Nat)(j:Nat)(w:jT)(o:L<=1024)(b:len.lf≠0)(h:Dz w d L ws len o7 g hb)(p:j<8*L):
 Calls prog 76 #[AB d,gz iU ((8*j:Nat):Int),gz iV ((ws j).toNat:Int)] w λf w'=>f=iO (gz iU 0)/\Dz w' d L ws len.tick o7 g hb/\Touch (FZ d L g hb) w w':=by
 have m:=Ac h;obtain⟨q,a⟩:=h.box;rw[decide_eq_false b]at a;obtain⟨r,s,t,u,f0,f1,f2,f3⟩:=Dp a;have k:=XZ d L ws len o7 g hb j w o b h p;have e:=Ac k;have i:=Ya d g L len.lf q w b h.lfr a;have c:=Ac i;clear k i h a;go_in;go_wp2_with(first|(refine e.out.ro ?_;clear e)|(refine c.mono ?_;rintro f w'⟨rfl,l,x,n⟩;clear c r s t u f0 f1 f2 f3));go_ret;exact⟨rfl,m.step l n,l.mono (λv=>.inl)⟩
def Ah4(d L:Nat)(ws:Nat->ni)(len:Mode)(o7:Nat->Nat)(g:Nat)(hb:Nat->Option Nat)(j:Nat)(x:ni)(w:jT)(av:L<=1024)(p:len.lf≠0)(h:Dz w d L ws len o7 g hb)(az:j<8*L)(aI:ws j≠x)(aE:len (j/8)<=1000000):
 Calls prog 76 #[AB d,gz iU ((8*j:Nat):Int),x] w λa w'=>a=iO (gz iU 0)/\
  ∃b,(hb (j/8)=jm b\/w<=b)/\Dz w' d L (λab=>if ab=j then x else ws ab) (len.note (j/8) (8*(j%8),ws j)).tick o7 g (λE=>if E=j/8 then jm b else hb E)/\Touch (FZ d L g hb) w w':=by
 obtain⟨a1,A⟩:=h.box;have ae:=h.lfr;rw[decide_eq_false p]at A;obtain⟨a3,a4,a5,a6,f0,f1,f2,f3⟩:=Dp A;have X:=XZ d L ws len o7 g hb j w av p h az;have J:=Ac X;have t1:(((ws j).toNat:Int)!=(x.toNat:Int))=true:=by
  rw[bne_iff_ne];intro a;exact aI (UInt64.toNat_inj.1 O)
 obtain⟨aq,B,a0,au,R⟩:=h.blk;obtain⟨u,c,P,ar,U⟩:=R (j/8) O;have ac:w.cell? (Δ g (66*(j/8)+64))=jm (fM u (len (j/8)) c):=by rw[cell_of_row w g _ aq _ (0,0) B];exact P
 have ad:w.frozen? (Δ g (66*(j/8)+64))=false:=by simp[Ij,B]
 rw[show 66*(j/8)+64=8*j/64*66+64 by omega]at ac ad;have i:=Ac h;have ah:=Ac U;clear X h A au R U B P ar;have e:η w (w.alloc (ji #[gz iU (8*(j:Int)%64),gz iV ((ws j).toNat:Int)] 235)):=mZ.alloc (Ae _) _;have S:=i.below e;have V:=ah.keep (w':=w.alloc (ji #[gz iU (8*(j:Int)%64),gz iV ((ws j).toNat:Int)] 235)) (λl _ aG=>e.block l aG);obtain⟨b,ap,q,Z,W,C,m⟩:=V.append (n:=len (j/8)) rfl 176 w (8*(j%8),ws j) (by rw[show((8*(j%8):Nat):Int)=8*(j:Int)%64 by omega];exact heap_alloc_new w _) aE;have Y:¬hb (j/8)=jm g:=λa=>(i.bd (j/8) O g a).1 rfl
 have D:q.heap[g]?=w.heap[g]?:=(m.block g (by have:=i.glt;simp;omega) Y).trans (e.block g i.glt);have r:q.cell? (Δ g (8*j/64*66+64))=jm (fM u (len (j/8)) c):=(BQ D).trans ac;have s:q.frozen? (Δ g (8*j/64*66+64))=false:=(Asq D).trans ad;have G:hb (j/8)=jm b\/w<=b:=C.imp id (λa=>by rw[a];simp);have T:=S.grow (i:=j/8) O m W (C.imp id (λa=>O));have Q:Touch (FZ d L g hb) w (q.setCell (Δ g (66*(j/8)+64)) (fM (jm (Φ b)) (len (j/8)+1) ap)):=
  ((mD (F:=FZ d L g hb) e).trans (m.mono (λE aD=>.inr (.inr ⟨j/8,O,aD⟩))) (λl=>.inl)).setCell (.inl (.inr (.inl rfl))) _
 obtain⟨H,M,N,k,K,al⟩:=lN Z r s T Q G;clear Z r s e S V W C m Y D G T Q;go_in;go_wp2_with fail;refine J.ro ?_;clear J;go_wp2_with(at_builtin;go_loud(refine GL _ rfl (.tmp 36) (.tmp 40) 176 176 rfl (fM u (len (j/8)) c) (fM (jm (Φ w)) 1 1) rfl rfl _ _ H ?_;clear H;have r:=M.out;have s:=N.out));rw[show 8*j/64*66=66*(j/8)by omega,show 8*(j:Int)%64=((8*(j%8):Nat):Int)by omega];refine(Al9 g (66*(j/8)) (j%8) (Jz ws (j/8)) x _ (PG _ _) (k.line (j/8) O) ?_ O).mono ?_
 ·obtain⟨aW,aw,_⟩:=k.blk;intro t _;simp[Ij,aw]
 rintro a aR⟨rfl,aM,z,rfl⟩;have f:=(k.below z).put (i:=j/8) (k:=j%8) O O x;have y:=(K.trans (mD (F:=FZ d L g hb) z) (λl=>.inl)).setCells (g:=g) (o:=66*(j/8)) (vs:=(leBytes ((Jz ws (j/8)).set (j%8) x)).map bv) (.inl (.inr (.inl rfl)));rw[show 8*(j/8)+j%8=j by omega]at f;generalize aM.setCells g (66*(j/8)) ((leBytes ((Jz ws (j/8)).set (j%8) x)).map bv)=aR at f y⊢;obtain⟨aL,v⟩:=f.box;rw[show decide ((len.note (j/8) (8*(j%8),ws j)).lf=0)=jS from decide_eq_false p]at v;obtain⟨I,am,an⟩:=l9 (Ya d g L len.lf aL _ p ae v) f y;clear f y v r s M N z K k;go_wp2_with(refine I.out.mono ?_;rintro a w'⟨rfl,aa,a2,ao⟩;clear I);go_ret;exact⟨rfl,b,al,am.step aa ao,an.trans aa (λl h=>.inl (.inl h))⟩
def Dz.o7{w:jT}{d L:Nat}{ws:Nat->ni}{len:Mode}{o7:Nat->Nat}{g:Nat}{hb:Nat->Option Nat}(h:Dz w d L ws len o7 g hb){i:Nat}(hi:i<L)(m:Nat)(v:m<=len i+1):
 Dz (w.setCell (Δ g (66*i+65)) (gz iU (m:Int))) d L ws len (λk=>if k=i then m else o7 k) g hb:=by
 have l:∀b,b≠g->(w.setCell (Δ g (66*i+65)) (gz iU (m:Int))).heap[b]?=w.heap[b]?:=λb j=>Below.heap_setCell w (Δ g (66*i+65)) _ b j
 obtain⟨st,r⟩:=h.box;obtain⟨cur,t,x,p,q⟩:=h.blk;refine⟨⟨st,(l d (λe=>h.gd e.symm)).trans r⟩,h.lfr,h.gd,⟨_,GR _ t,by rw[IQ];exact x,λa f k u=>?_,λa f=>?_⟩,h.bd,h.inj,λa f=>?_⟩
 ·rw[Bh,lg O];exact p a f k u
 ·obtain⟨A,c,n,o,s⟩:=q a f;refine⟨A,c,?_,?_,s.keep (λb j _=>l b (h.bd a f b j).1)⟩
  ·rw[Bh,lg O];exact n
  ·by_cases e:a=i
   ·subst e;rw[Bh,kX rfl,kX O,kX rfl]
   ·rw[Bh,lg O,lg e];exact o
 ·show(if a=i then m else o7 a)<=len a+1;by_cases e:a=i
  ·rw[kX e];subst e;exact v
  ·rw[lg e];exact h.mrk a f
def Ah5(d L:Nat)(ws:Nat->ni)(len:Mode)(o7:Nat->Nat)(g:Nat)(hb:Nat->Option Nat)(off:Nat)(w:jT)(G:L<=1024)(l:len.lf≠0)(h:Dz w d L ws len o7 g hb)(Q:off<64*L)(R:len (off/64)<=1000001):
 Calls prog 78 #[AB d,off] w λr w'=>r=iO (gz iU 0)/\
  Dz w' d L ws len.tick (λA=>if A=off/64 then len (off/64)+1 else o7 A) g hb/\Touch (FZ d L g hb) w w':=by
 obtain⟨I,e⟩:=h.box;have C:=h.lfr;rw[decide_eq_false l]at e;obtain⟨W,X,Y,Z,f0,f1,f2,f3⟩:=Dp e;have v:=Acn d L g off 1 (gz iU len.lf) (gz iU I) w G e O U O U;have m:=Ac v;obtain⟨q,f,S,F,u⟩:=h.blk;obtain⟨B,c,s,t,H⟩:=u (off/64) O;have K:w.cell? (Δ g (66*(off/64)+64))=jm (fM B (len (off/64)) c):=by rw[cell_of_row w g _ q _ (0,0) f];exact s
 have M:w.frozen? (Δ g (66*(off/64)+65))=false:=by simp[Ij,f]
 have N:w.cell? (Δ g (66*(off/64)+65))=jm (gz iU (o7 (off/64):Int)):=by rw[cell_of_row w g _ q _ (0,0) f];exact t
 rw[show 66*(off/64)+64=off/64*66+64 by omega]at K;rw[show 66*(off/64)+65=off/64*66+65 by omega]at M N;have x:=h.o7 (i:=off/64) O (len (off/64)+1) (Ae _);have y:=(Touch.refl (FZ d L g hb) w).setCell (p:=Δ g (66*(off/64)+65)) (.inl (.inr (.inl rfl))) (gz iU ((len (off/64)+1:Nat):Int));have o:=Ac x;have a:=Ac y;clear v h e F u H f s t x y;go_in;go_wp2_with(refine m.out.ro ?_;clear m);rw[show off/64*66=66*(off/64)by omega,show((len (off/64):Int)+1)=((len (off/64)+1:Nat):Int)by omega];have b:=o.out;have k:=a.out;clear o a;generalize w.setCell (Δ g (66*(off/64)+65)) (gz iU ((len (off/64)+1:Nat):Int))=V at b k⊢;obtain⟨J,j⟩:=b.box;rw[decide_eq_false l]at j;obtain⟨n,D,a⟩:=l9 (Ya d g L len.lf J _ l C j) b k;clear b k j;refine n.mono ?_;rintro r w'⟨rfl,z,T,E⟩;clear n;go_wp2;go_ret;exact⟨rfl,D.step z E,a.trans z (λP h=>.inl (.inl h))⟩
def Acr(A:Option Addr)(c:Nat)(w:jT):
 Calls prog 125 #[fM A 0 c] w λf w'=>∃B,f=iO (fM B 0 0)/\η w w':=by
 rcases A with _|b
 ·have j:=λW=>KI (P:=prog) W 176 235 jw 0 c 0 0 underlying176
  go_in;go_wp2;go_ret;exact⟨_,rfl,mZ⟩
 ·have j:=λW=>KI (P:=prog) W 176 235 (jm b) 0 c 0 0 underlying176
  obtain⟨a,i,k,l,m⟩:∃a,prog.info? 235=jm a/\a.zero=jm (iK #[gz iU 0,gz iV 0])/\a.size=2/\a.bytes=16:=by
   have g:(prog.info? 235).map (λa=>(a.zero,a.size,a.bytes))=jm (jm (iK #[gz iU 0,gz iV 0]),2,16):=by kernel_rfl
   exact info_parts g
  have d:(Builtin.append_ #[176,176] 176 #[fM (jm (Φ w)) 0 0,fM (jm b) 0 c]).run prog (w.alloc (ji #[] 235))=.ok (fM (jm (Φ w)) 0 0) (w.alloc (ji #[] 235)):=by
   simp[Builtin.append_,run_underlying underlying176,sizeOf,typeInfo,i,Builtin.lenOf,Builtin.firstCells,loadCells,loadCellsFrom,storeCells]
  have e:=Ac d;clear d;go_in;go_wp2_with(at_builtin;go_loud(refine GL _ rfl (.tmp 5) (.tmp 6) 176 176 rfl (fM (jm (Φ w)) 0 0) (fM (jm b) 0 c) rfl rfl _ _ e ?_));go_ret;exact⟨_,rfl,mZ.alloc (Ae _) _⟩
def Dz.clear{w:jT}{d L:Nat}{ws:Nat->ni}{len:Mode}{o7:Nat->Nat}{g:Nat}{hb:Nat->Option Nat}(h:Dz w d L ws len o7 g hb){i:Nat}(hi:i<L){l:jT}(k:η w l)(B:Option Addr):
 Dz ((l.setCell (Δ g (66*i+64)) (fM B 0 0)).setCell (Δ g (66*i+65)) (gz iU 0)) d L ws (len.wipe i) (λk=>if k=i then 0 else o7 k) g (λk=>if k=i then jw else hb k):=by
 have E:(len.wipe i).bQ i=[]:=kX rfl;have F:∀k,k≠i->(len.wipe i).bQ k=len.bQ k:=λk a=>lg a
 have h:=h.below k;have q:∀b,b≠g->((l.setCell (Δ g (66*i+64)) (fM B 0 0)).setCell (Δ g (66*i+65)) (gz iU 0)).heap[b]?=l.heap[b]?:=λb f=>(Below.heap_setCell _ (Δ g (66*i+65)) _ b f).trans (Below.heap_setCell l (Δ g (66*i+64)) _ b f)
 obtain⟨st,y⟩:=h.box;obtain⟨cur,C,G,t,u⟩:=h.blk;refine⟨⟨st,(q d (λa=>h.gd a.symm)).trans y⟩,h.lfr,h.gd,⟨_,GR _ (GR _ C),by rw[IQ,IQ];exact G,λe j k D=>?_,λe j=>?_⟩,λe j b f=>?_,λn b v f x H m=>?_,λe j=>?_⟩
 ·rw[Bh,lg O,Bh,lg O];exact t e j k D
 ·obtain⟨A,c,r,s,z⟩:=u e j;by_cases a:e=i
  ·subst a;refine⟨B,0,?_,?_,.inl ⟨kX rfl,E,rfl⟩⟩
   ·rw[Bh,lg O,Bh,kX rfl,kX O,Mode.fO,kX rfl]
   ·rw[Bh,kX rfl,kX (by rw[IQ];omega),kX rfl];rfl
  ·refine⟨A,c,?_,?_,?_⟩
   ·rw[Bh,lg O,Bh,lg O,Mode.fO,lg a];exact r
   ·rw[Bh,lg O,Bh,lg O,lg a];exact s
   ·rw[F _ a,lg a];exact z.keep (λb f _=>q b (h.bd e j b f).1)
 ·by_cases a:e=i
  ·rw[kX a]at f;cases f
  ·rw[lg a]at f;exact h.bd e j b f
 ·by_cases o:n=i
  ·rw[kX o]at m;cases m
  ·rw[lg o]at m;by_cases p:b=i
   ·rw[kX p];exact λI=>by cases I
   ·rw[lg p];exact h.inj n b v f x H m
 ·show(if e=i then 0 else o7 e)<=(len.wipe i).len e+1;by_cases a:e=i
  ·rw[kX a];omega
  ·rw[lg a,Mode.fO,lg a];exact h.mrk e j
def mJ(g i:Nat)(w:jT)(b:w.cell? (Δ g (66*i+65))=jm (gz iU 0)):
 Calls prog 80 #[iL (jm (Δ g (66*i)))] w λa w'=>a=iO (iJ #[])/\w=w':=by
 go_in;go_wp2;go_end0;exact⟨rfl,rfl⟩
def Amb(A:Option Addr)(n c:Nat)(j:n<=1000000):∃b,∀W,(Instr.slice 176 (fM A n c) (jm (gz iU (n:Int))) jw jw).run prog W=.ok (fM b 0 (c-n)) W:=by
 obtain⟨a,f,k,g,l⟩:∃a,prog.info? 235=jm a/\a.zero=jm (iK #[gz iU 0,gz iV 0])/\a.size=2/\a.bytes=16:=by
  have e:(prog.info? 235).map (λa=>(a.zero,a.size,a.bytes))=jm (jm (iK #[gz iU 0,gz iV 0]),2,16):=by kernel_rfl
  exact info_parts e
 refine⟨if c=n then A else A.map (·.add (n*2)),λW=>?_⟩;have d:=run_sliceBound (P:=prog) (w:=W) iU (n:Int) n .sliceB O O;have i:(sizeOf 235).run prog W=.ok 2 W:=by simp[sizeOf,typeInfo,f,g]
 simp[Instr.slice,run_underlying underlying176,Instr.sliceBounds,d]
def Acs(g i n c:Nat)(A:Option Addr)(w:jT)(j:n<=1000000)(f:w.cell? (Δ g (66*i+64))=jm (fM A n c))(k:w.cell? (Δ g (66*i+65))=jm (gz iU ((n:Int)+1)))
 (f1:w.frozen? (Δ g (66*i+64))=jS)(f2:w.frozen? (Δ g (66*i+65))=jS):
 Calls prog 80 #[iL (jm (Δ g (66*i)))] w λe w'=>e=iO (iJ #[])/\∃B b,η w b/\w'=(b.setCell (Δ g (66*i+64)) (fM B 0 0)).setCell (Δ g (66*i+65)) (gz iU 0):=by
 have d:g<w:=Hq w _ f;obtain⟨l,q⟩:=Amb A n c j;have m:IntKind.i64.wrap ((n:Int)+1-1)=(n:Int):=by rw[Int.add_sub_cancel];exact IntWalk.i64_in _ O
 have o:IntKind.i64.wrap (n:Int)=(n:Int):=IntWalk.i64_in _ O;go_in;go_wp2_with fail;go_region_with(go_at_call 125;go_loud(refine(Acr _ _ _).mono ?_;rintro e b⟨B,rfl,a⟩;have r:=(a.cell (p:=Δ g (66*i+64)) d).trans f;have s:=(a.frozen (p:=Δ g (66*i+64)) d).trans f1;have t:=(a.cell (p:=Δ g (66*i+65)) d).trans k;have u:=(a.frozen (p:=Δ g (66*i+65)) d).trans f2))
 all_goals(go_wp2)
 all_goals(go_end0)
 all_goals(exact⟨rfl,B,b,⟨a.os,a.tape,a.output,a.size,a.block⟩,rfl⟩)
def We(k:Nat)(len:Mode)(o7:Nat->Nat):Mode:=⟨λa=>if a<k/\o7 a≠0 then[]else len.bQ a,len.lf⟩
def OD(k:Nat)(o7:Nat->Nat)(i:Nat):Nat:=if i<k then 0 else o7 i
def NM(k:Nat)(o7:Nat->Nat)(hb:Nat->Option Nat)(i:Nat):Option Nat:=if i<k/\o7 i≠0 then jw else hb i
def Ah6(len:Mode)(o7:Nat->Nat):We 0 len o7=len:=by
 cases len;rfl
def Acu(o7:Nat->Nat):OD 0 o7=o7:=by funext i;simp[OD]
def Amc(o7:Nat->Nat)(hb:Nat->Option Nat):NM 0 o7 hb=hb:=by funext i;simp[NM]
def Aq4(k:Nat)(len:Mode)(o7:Nat->Nat)(h:o7 k=0):We (k+1) len o7=We k len o7:=by
 unfold We;congr 1;funext i;by_cases a:i=k
 ·subst a;simp[h]
 ·simp only[show(i<k+1)=(i<k)by apply propext;omega]
def Amd(k:Nat)(o7:Nat->Nat)(h:o7 k=0):OD (k+1) o7=OD k o7:=by
 funext i;unfold OD;by_cases a:i=k
 ·subst a;simp[h]
 ·simp only[show(i<k+1)=(i<k)by apply propext;omega]
def Ava(k:Nat)(o7:Nat->Nat)(hb:Nat->Option Nat)(h:o7 k=0):NM (k+1) o7 hb=NM k o7 hb:=by
 funext i;unfold NM;by_cases a:i=k
 ·subst a;simp[h]
 ·simp only[show(i<k+1)=(i<k)by apply propext;omega]
def Ame(k:Nat)(len:Mode)(o7:Nat->Nat)(h:o7 k≠0):We (k+1) len o7=(We k len o7).wipe k:=by
 unfold We Mode.wipe;congr 1;funext i;by_cases a:i=k
 ·subst a;simp[h]
 ·simp only[show(i<k+1)=(i<k)by apply propext;omega,lg a]
def Ah7(k:Nat)(o7:Nat->Nat):OD (k+1) o7=λa=>if a=k then 0 else OD k o7 a:=by
 funext a;unfold OD;by_cases b:a=k
 ·subst b;simp
 ·simp only[show(a<k+1)=(a<k)by apply propext;omega,lg b]
def Aq5(k:Nat)(o7:Nat->Nat)(hb:Nat->Option Nat)(h:o7 k≠0):NM (k+1) o7 hb=λa=>if a=k then jw else NM k o7 hb a:=by
 funext a;unfold NM;by_cases b:a=k
 ·subst b;simp[h]
 ·simp only[show(a<k+1)=(a<k)by apply propext;omega,lg b]
def Amf(d L:Nat)(ws:Nat->ni)(len:Mode)(o7:Nat->Nat)(g:Nat)(hb:Nat->Option Nat)(k:Nat)(w:jT)(q:k<L)(h:Dz w d L ws (We k len o7) (OD k o7) g (NM k o7 hb))
 (t:o7 k=0\/o7 k=len k+1)(s:len k<=1000000):
 Calls prog 80 #[iL (jm (Δ g (66*k)))] w λl w'=>l=iO (iJ #[])/\
  Dz w' d L ws (We (k+1) len o7) (OD (k+1) o7) g (NM (k+1) o7 hb)/\Touch (·=g) w w':=by
 obtain⟨j,b,C,z,r⟩:=h.blk;obtain⟨i,c,m,n,A⟩:=r k q;have v:(We k len o7).len k=len k:=by simp[We,Mode.len]
 have x:OD k o7 k=o7 k:=by simp[OD]
 rw[v]at m;rw[x]at n;have y:w.cell? (Δ g (66*k+64))=jm (fM i (len k) c):=by rw[cell_of_row w g _ j _ (0,0) b];exact m
 have e:w.cell? (Δ g (66*k+65))=jm (gz iU (o7 k:Int)):=by rw[cell_of_row w g _ j _ (0,0) b];exact n
 have f1:w.frozen? (Δ g (66*k+64))=false:=by simp[Ij,b]
 have f2:w.frozen? (Δ g (66*k+65))=false:=by simp[Ij,b]
 by_cases a:o7 k=0
 ·rw[a]at e;refine(mJ g k w e).ro ?_;refine⟨rfl,?_,mP⟩;rw[Aq4 _ _ _ a,Amd _ _ a,Ava _ _ _ a];exact h
 ·have u:o7 k=len k+1:=t.resolve_left a;rw[u,rP]at e;refine(Acs g k (len k) c i w s y e f1 f2).mono ?_;rintro l w'⟨rfl,B,D,o,rfl⟩;refine⟨rfl,?_,Touch.setCell (F:=λf=>f=g) (Touch.setCell (F:=λf=>f=g) (mD o) (p:=Δ g (66*k+64)) (.inl rfl) _) (p:=Δ g (66*k+65)) (.inl rfl) _⟩;rw[Ame _ _ _ a,Ah7,Aq5 _ _ _ a];exact h.clear q o B
def Ah8(d L:Nat)(ws:Nat->ni)(len:Mode)(o7:Nat->Nat)(g:Nat)(hb:Nat->Option Nat)(w:jT)(H:L<=1024)(Q:0<L)(q:len.lf≠0)(h:Dz w d L ws len o7 g hb)
 (y:∀b,b<L->o7 b=0\/o7 b=len b+1)(x:∀b,b<L->len b<=1000000):
 Calls prog 42 #[AB d] w λc w'=>c=iO (gz iU 0)/\
  Dz w' d L ws (We L len o7).tick (OD L o7) g (NM L o7 hb)/\Touch (FZ d L g hb) w w':=by
 obtain⟨M,j⟩:=h.box;have B:=h.lfr;rw[decide_eq_false q]at j;obtain⟨l,m,n,o,f0,f1,f2,f3⟩:=Dp j;have v:=Acn d L g 0 1 (gz iU len.lf) (gz iU M) w H j O U U U;obtain⟨r,C,E,D⟩:=lL v h y x;clear v h j y x;go_in;go_wp2_with(refine r.out.ro ?_;clear r);clear l m n o f0 f1 f2 f3;go_loopw [15](λb wr=>∃a:Nat,a<=L/\b=gz iU a/\Dz wr d L ws (We a len o7) (OD a o7) g (NM a o7 hb)/\Touch (·=g) w wr)(λb _=>L-(intOf b).toNat)
 case atStart=>exact⟨0,Bd _,rfl,by rw[Ah6,Acu,Amc];exact C,mP⟩
 case round=>
  obtain⟨a,R,rfl,f,k⟩:=hrel;obtain⟨N,e⟩:=f.box;rw[show decide ((We a len o7).lf=0)=jS from decide_eq_false q]at e;obtain⟨l,m,n,o,f0,f1,f2,f3⟩:=Dp e;by_cases p:a<L
  ·have t:=Ac (Amf d L ws len o7 g hb a wr p f (E a p) (D a p));have i:=Ac k;clear f k e;go_wp2_with(rw[show a*66=66*a by omega];refine t.mono ?_;rintro c P⟨rfl,J,z⟩;have K:=i.trans z (λu=>.inl);clear t i l m n o f0 f1 f2 f3 z);exact⟨⟨a+1,O,by go_num,J,K⟩,mz⟩
  ·have I:a=L:=O;subst I;obtain⟨s,F,i⟩:=l9 (Ya d g a len.lf N wr q B e) f k;clear f k e;go_wp2_with(refine s.out.mono ?_;rintro c P⟨rfl,A,S,G⟩;clear s l m n o f0 f1 f2 f3);go_ret;exact⟨rfl,F.step A G,(i.mono (λu c=>.inr (.inl c))).trans A (λu h=>.inl (.inl h))⟩
def OE:Array Value:=(BJ 64 (AA .u8 0)++[Ad jw 0 0,AA iU 0]).toArray
def Tryz.Acv:(prog.info? 178).bind (λa=>a.zero.map (λb=>(b.cells,a.size,a.bytes)))=jm (OE,66,96):=by kernel_rfl
def Acw(i:Nat):leBytes (Jz (λ_=>0) i)=BJ 64 0:=by
 have:Jz (λ_=>0) i=BJ 8 0:=by
  apply ER
  ·simp[Jz]
  ·intro t a b;rw[PR,List.getElem_replicate]
 rw[this];decide
def YZ(L i k:Nat)(hi:i<L)(b:k<66):(madeCells OE (L*66))[66*i+k]?=OE[k]?:=by
 have a:OE.size=66:=rfl;have:66*i+k<L*66:=O;unfold madeCells;rw[Array.getElem?_map,a];simp only[Array.getElem?_range,this,if_true,EX];rw[show(66*i+k)%66=k by omega,getElem!_pos OE k (by rw[a];exact b),Array.getElem?_eq_getElem (by rw[a];exact b)]
def Dz.made{w:jT}{d g L:Nat}{st:Int}(e:Cm w d 70 [fM (jm (Φ g)) L L,jS,gz iU (-1),st])(l:g≠d)(f:w.heap[g]?=jm (ji (madeCells OE (L*66)) 178 (0,0))):
 Dz w d L (λ_=>0) M0 (λ_=>0) g (λ_=>jw):=by
 refine⟨⟨st,e⟩,by decide,l,⟨_,f,by rw[size_madeCells];omega,λi a k c=>?_,λi a=>⟨jw,0,?_,?_,.inl ⟨rfl,rfl,rfl⟩⟩⟩,λi a h b=>(by cases b),λi j a n m h b=>(by cases b),λi a=>Bd _⟩
 ·rw[YZ L i k a O,Acw,Jw,kX c];show(BJ 64 (AA .u8 0)++[Ad jw 0 0,AA iU 0]).toArray[k]?=_;rw[List.getElem?_toArray,DK (by simpa using c),Jw,kX c];rfl
 ·rw[YZ L i 64 a U];rfl
 ·rw[YZ L i 65 a U];rfl
def Amg(L:Nat)(w:jT)(A:1<=L)(z:L<=1024):
 Calls prog 14 #[L] w λm w'=>∃d g,m=iO (AB d)/\
  Dz w' d L (λ_=>0) M0 (λ_=>0) g (λ_=>jw)/\w.heap.size<=d/\w.heap.size<=g/\η w w'/\w'.cell? (Δ d 3)=jm (gz iU 0):=by
 obtain⟨v,c,p,r,s,t,u⟩:∃a c,prog.info? 178=jm a/\a.zero=jm c/\a.size=66/\a.bytes=96/\c.cells=OE:=by
  have h:=Tryz.Acv;cases k:prog.info? 178 with
  |none=>rw[k]at h;cases h
  |some a=>
   rw[k]at h;cases f:a.zero with
   |none=>simp[f]at h
   |some c=>simp[f]at h;exact⟨a,c,rfl,f,h.2.1,h.2.2,h.1⟩
 go_in;go_wp2_with(at_make;refine wpList_make_full _ rfl _ _ 68 rfl w.heap.size 178 v c 66 underlying68 p r s iU iU _ _ L rfl rfl rfl rfl (by rw[t];omega) (by unfold maxLen;omega) (Ae _) ?_;intro b e j);have n:η w b:=mZ.grown j (Ae _) Θ;rw[u]at e;have i:b.heap[w.heap.size]?=jm (ji (madeCells OE (L*66)) 178 (0,0)):=by
  rcases e.2 with⟨h,_⟩|⟨g,x,y,h,_,o,_,_,B,l⟩
  ·cases h
  ·simp only[Value.slice.injEq,Option.some.injEq,Addr.mk.injEq,and_true,true_and]at h;obtain⟨rfl,rfl⟩:=h;rw[List.take_of_length_le (by rw[Array.length_toList];omega)]at l;rw[o,Array.toList_inj.1 l]
 have q:w.heap.size<b.heap.size:=(AL.1 i).1;clear j e;go_ret;refine⟨b,w.heap.size,rfl,Dz.made (heap_alloc_new b _) O ((χ b _ q).trans i),O,Ae _,n.alloc O _,Cm.cell (heap_alloc_new b _) 3⟩
def Aq6(L:Nat)(w:jT)(k:1<=L)(j:L<=1024):
 Calls prog 14 #[L] w λa w'=>∃d g,a=iO (AB d)/\
  Dz w' d L (λ_=>0) M0 (λ_=>0) g (λ_=>jw)/\w<=d/\w<=g/\η w w':=by
 refine(Amg L w k j).mono ?_;rintro a w'⟨d,g,b,c,e,f,i,_⟩;exact⟨d,g,b,c,e,f,i⟩
def yf(d:Nat)(off x:Int)(w:jT):
 Calls prog 39 #[AB d,off,gz iV x] w λa w'=>a=iO (.func (.func 75) #[] #[AB w,AB (w+1),AB (w+1+1)])/\
  w'=((w.alloc (ji #[AB d] 27)).alloc (ji #[off] 3)).alloc (ji #[gz iV x] 47):=by
 go_in;go_wp2;go_ret;exact⟨rfl,rfl⟩
def yh(d:Nat)(off:Int)(w:jT):
 Calls prog 40 #[AB d,off] w λa w'=>a=iO (.func (.func 77) #[] #[AB w,AB (w+1)])/\
  w'=(w.alloc (ji #[AB d] 27)).alloc (ji #[off] 3):=by
 go_in;go_wp2;go_ret;exact⟨rfl,rfl⟩
def Za(d L g off n:Nat)(e f i:ku)(w:jT)(o:1<=L)(k:L<=1024)(h:Cm w d 70 [fM (jm (Φ g)) L L,e,f,i])(m:off%8=0)(l:off+8*n<=L*64):
 Calls prog 38 #[AB d,off,n] w λj w'=>j=iO (gz iU 0)/\w=w':=by
 have b:=UQ d L g e f i w k h;have a:=Ac b;obtain⟨N,c⟩:=ε (L*64);rw[<-c]at b a l;have t1:((N:Int)==0)=false:=ζ O;have t2:=dF ((off:Int)<0);have t4:((off:Int)%8 !=0)=false:=by
  have:(off:Int)%8=0:=O;rw[this];rfl
 have t5:=dF ((n:Int)<0);have t6:=dF (((N:Int) -(off:Int))/8<(n:Int));have p:N<=65536:=O;have q:off<=N:=O;clear b h;go_in;go_wp2_with(refine a.out.ro ?_;clear a c);go_ret;exact⟨rfl,rfl⟩
def gB{d:Int->jT->Prop}(e f g:Nat)(D:ku)(off x:Int)(w:jT)(h1:w.cell? (Φ e)=jm D)(k:∃b,D=.pointer b)(h2:w.cell? (Φ f)=jm (gz iU off))(h3:w.cell? (Φ g)=jm (gz iV x))
 (i:Calls prog 76 #[D,off,gz iV x] w λa w'=>∃c:Int,a=iO c/\d c w'):
 Calls prog 75 #[AB e,AB f,AB g] w λa w'=>∃c:Int,a=iO c/\d c w':=by
 obtain⟨b,rfl⟩:=k;have j:=Ac i;clear i;go_in;go_wp2_with(refine j.out.mono ?_;rintro a w'⟨c,rfl,l⟩);go_ret;exact⟨c,rfl,l⟩
def gG{d:Int->jT->Prop}(e f:Nat)(D:ku)(off:Int)(w:jT)(h1:w.cell? (Φ e)=jm D)(j:∃b,D=.pointer b)(h2:w.cell? (Φ f)=jm (gz iU off))
 (g:Calls prog 78 #[D,off] w λa w'=>∃c:Int,a=iO c/\d c w'):
 Calls prog 77 #[AB e,AB f] w λa w'=>∃c:Int,a=iO c/\d c w':=by
 obtain⟨b,rfl⟩:=j;have i:=Ac g;clear g;go_in;go_wp2_with(refine i.out.mono ?_;rintro a w'⟨c,rfl,k⟩);go_ret;exact⟨c,rfl,k⟩
def oI(A:Option Addr)(n c:Nat)(d:Nat->Nat)(i e:Nat->Array ku)(b:Nat->jT->Prop)(o:jT->Prop)(w:jT)(G:n<=1000000)(p:b 0 w)
 (t:∀a,a<n->∀W,(callFunc (d a) (i a++e a)).run prog W=.ok (.enter (d a) (i a++e a)) W)
 (u:∀a W,b a W->Rd W A n ((Ea n).map λa=>Axr (.func (d a)) (i a) (e a)))
 (v:∀a W,a<n->b a W->Calls prog (d a) (i a++e a) W λf w'=>∃c:Int,f=iO c/\((c=0/\b (a+1) w')\/(c=12/\o w'))):
 Calls prog 41 #[fM A n c] w λf w'=>∃c:Int,f=iO c/\((c=0/\b n w')\/(c=12/\o w')):=by
 obtain⟨y,z,x⟩:=l9 u v t;clear u v t;go_in;go_wp2_with fail;go_loopw [8](λm wr=>∃a:Nat,a<=n/\m=gz iU a/\b a wr)(λm _=>n-(intOf m).toNat)
 case atStart=>exact⟨0,Bd _,rfl,p⟩
 case round=>
  obtain⟨a,F,rfl,k⟩:=hrel;by_cases g:a<n
  ·obtain⟨E,H,rfl,hb,s⟩:=(y a wr k).2 O;have l:=s a g;simp only[CP,List.getElem?_range g,EX]at l;have q:=z a wr g k;have j:=Ac q;have r:=x a g;clear s q p;go_wp2_with fail;refine j.mono ?_;rintro f I⟨c,rfl,⟨rfl,B⟩|⟨rfl,C⟩⟩
   ·clear j l r;go_wp2;exact⟨⟨a+1,O,by go_num,B⟩,mz⟩
   ·clear j l r;go_wp2;go_ret;exact⟨12,rfl,.inr ⟨rfl,C⟩⟩
  ·have D:a=n:=O;subst D;go_wp2;go_ret;exact⟨0,rfl,.inl ⟨rfl,k⟩⟩
def Dv(w0:jT)(d L g:Nat)(b:Nat->Option Nat)(ws:Nat->ni)(len:Mode)(o7:Nat->Nat)(W:jT):Prop:=
 ∃hb,(∀a,FZ d L g hb a->FZ d L g b a\/w0<=a)/\Dz W d L ws len o7 g hb/\Touch (FZ d L g b) w0 W
def Dv.start{w0 W:jT}{d L g:Nat}{a:Nat->Option Nat}{ws:Nat->ni}{len:Mode}{o7:Nat->Nat}(h:Dz w0 d L ws len o7 g a)(hb:η w0 W):Dv w0 d L g a ws len o7 W:=
 ⟨a,λ_=>.inl,h.below hb,mD hb⟩
def Amh{w0 W:jT}{d L g:Nat}{o:Nat->Option Nat}{ws:Nat->ni}{len:Mode}{o7:Nat->Nat}(h:Dv w0 d L g o ws len o7 W)(n:L<=1024)(s:len.lf≠0)(j:Nat)(x:ni)(q:j<8*L)(w:len (j/8)<=1000000):
 Calls prog 76 #[AB d,gz iU ((8*j:Nat):Int),x] W λb w'=>b=iO (gz iU 0)/\
  ∃m:Mode,(m=len\/m=len.note (j/8) (8*(j%8),ws j))/\Dv w0 d L g o (λa=>if a=j then x else ws a) m.tick o7 w':=by
 obtain⟨hb,f,r,k⟩:=h;by_cases p:ws j=x
 ·subst p;refine(Aco d L ws len o7 g hb j W n s r q).mono ?_;rintro b w'⟨rfl,i,l⟩;refine⟨rfl,len,.inl rfl,hb,f,?_,k.trans l (λc h=>f c h)⟩;rw[show(λa=>if a=j then ws j else ws a)=ws by funext a;by_cases b:a=j<;>simp[b]];exact i
 ·refine(Ah4 d L ws len o7 g hb j x W n s r q p w).mono ?_;rintro b w'⟨rfl,t,e,i,l⟩;refine⟨rfl,_,.inr rfl,_,λc u=>?_,i,k.trans l (λc h=>f c h)⟩;rcases u with h|h|⟨a,v,h⟩
  ·exact .inl (.inl h)
  ·exact .inl (.inr (.inl h))
  ·change(if a=j/8 then jm t else hb a)=jm c at h;by_cases b:a=j/8
   ·rw[kX b]at h;injection h with h
    subst h;rcases e with e|e
    ·exact f _ (.inr (.inr ⟨j/8,O,e⟩))
    ·exact .inr (AZ k.size e)
   ·rw[lg b]at h;exact f _ (.inr (.inr ⟨a,v,h⟩))
def Ami{w0 W:jT}{d L g:Nat}{b:Nat->Option Nat}{ws:Nat->ni}{len:Mode}{o7:Nat->Nat}(h:Dv w0 d L g b ws len o7 W)(i:L<=1024)(p:len.lf≠0)(off:Nat)(j:off<64*L)(k:len (off/64)<=1000001):
 Calls prog 78 #[AB d,off] W λa w'=>a=iO (gz iU 0)/\
  Dv w0 d L g b ws len.tick (λe=>if e=off/64 then len (off/64)+1 else o7 e) w':=by
 obtain⟨hb,c,l,n⟩:=h;refine(Ah5 d L ws len o7 g hb off W i p l j k).mono ?_;rintro a w'⟨rfl,m,o⟩;exact⟨rfl,hb,c,m,n.trans o (λf h=>c f h)⟩
def Amj{w0 W:jT}{d L g:Nat}{e:Nat->Option Nat}{ws:Nat->ni}{len:Mode}{o7:Nat->Nat}(h:Dv w0 d L g e ws len o7 W)(i:L<=1024)(j:0<L)(s:len.lf≠0)
 (n:∀a,a<L->o7 a=0\/o7 a=len a+1)(m:∀a,a<L->len a<=1000000):
 Calls prog 42 #[AB d] W λb w'=>b=iO (gz iU 0)/\
  Dv w0 d L g e ws (We L len o7).tick (OD L o7) w':=by
 obtain⟨hb,f,o,q⟩:=h;refine(Ah8 d L ws len o7 g hb W i j s o n m).mono ?_;rintro b w'⟨rfl,p,r⟩;refine⟨rfl,_,λc k=>?_,p,q.trans r (λc h=>f c h)⟩;rcases k with h|h|⟨a,l,h⟩
 ·exact .inl (.inl h)
 ·exact .inl (.inr (.inl h))
 ·unfold NM at h;by_cases b:a<L/\o7 a≠0
  ·rw[kX b]at h;cases h
  ·rw[lg b]at h;exact f _ (.inr (.inr ⟨a,l,h⟩))
def Dv.tC{w0 W:jT}{d L g:Nat}{b:Nat->Option Nat}{ws:Nat->ni}{len:Mode}{o7:Nat->Nat}(h:Dv w0 d L g b ws len o7 W)(c:len.lf=0):∃f i,Cm W d 70 [fM (jm (Φ g)) L L,jO,f,i]:=by
 obtain⟨hb,j,e,k⟩:=h;obtain⟨l,a⟩:=e.box;rw[decide_eq_true c]at a;exact⟨_,_,a⟩
def Ah9(ws:Nat->ni)(j:Nat):CQ ws j []=ws:=by
 funext i;unfold CQ;rw[lg Θ]
def Acx(ws:Nat->ni)(j:Nat)(xs:List ni)(k:Nat)(b:k<xs.length):(λa=>if a=j+k then xs[k]else CQ ws j (xs.take k) a)=CQ ws j (xs.take (k+1)):=by
 funext a;unfold CQ;simp only[Cc,EI (Lh b),EI (show k+1<=xs.length from b),Bv,Dh];by_cases c:a=j+k
 ·subst c;rw[kX rfl,kX O,kX O,Ut,Ag b];rfl
 ·rw[lg c];by_cases h:j<=a/\a<j+k
  ·rw[kX h,kX O,kX O,kX O]
  ·rw[lg h,lg O]
def Acy(ws:Nat->ni)(j:Nat)(xs:List ni)(k q:Nat):CQ ws j (xs.take k) q=ws q\/CQ ws j (xs.take k) q=CQ ws j xs q:=by
 unfold CQ;simp only[Cc,Bv,Dh];by_cases h:j<=q/\q<j+min k xs.length
 ·right;rw[kX h,kX O,kX O]
 ·left;rw[lg h]
def Aia(ws:Nat->ni)(j:Nat)(x:ni):CQ ws j [x]=DD ws j x:=by
 funext i;unfold CQ DD;by_cases a:i=j
 ·subst a;rw[kX Θ,kX rfl,Pv];rfl
 ·rw[lg (by simp;omega),lg a]
def lK(lf:Int)(k:Nat):Int:=if lf<0 then lf else lf-k
def Amk(lf:Int):lK lf 0=lf:=by unfold lK;split<;>omega
def Aq7(k:Nat):lK (-1) k= -1:=rfl
def gI{len:Mode}{lf:Int}{k:Nat}(h:len.lf=lK lf k)(b:len.lf≠0)(c:lf<0\/(k:Int)<=lf):len.tick.lf=lK lf (k+1)/\(lf<0\/((k+1:Nat):Int)<=lf):=by
 show(if 0<len.lf then len.lf-1 else len.lf)=_/\_;rw[h]at b⊢;unfold lK at b⊢;by_cases a:lf<0
 ·simp only[kX a];rw[lg O];exact⟨rfl,.inl a⟩
 ·simp only[lg a]at b⊢;rw[kX O];exact⟨O,.inr O⟩
def gJ(ws:Nat->ni)(j n:Nat)(len:Mode):Prop:=∀a,∀c∈len.bQ a,∃t,t<8/\c.1=8*t/\j<=8*a+t/\8*a+t<j+n/\c.2=ws (8*a+t)
def Acz(ws:Nat->ni)(j n:Nat)(lf:Int):gJ ws j n (MU lf):=λ_ _ h=>nomatch h
def Aml(lf:Int)(W0:jT)(d L g:Nat)(hb:Nat->Option Nat)(ws:Nat->ni)(j:Nat)(xs:List ni)(N:Nat)(W:jT):Prop:=
 0<=lf/\lf<N/\∃(len:Mode)(a:Nat->ni)(o7:Nat->Nat),len.lf=0/\(∀b,len b<=1000000)/\gJ ws j xs.length len/\(∀q,a q=ws q\/a q=CQ ws j xs q)/\Dv W0 d L g hb a len o7 W
def Wrote(lf:Int)(N:Nat)(W0:jT)(d L g:Nat)(hb:Nat->Option Nat)(ws:Nat->ni)(j:Nat)(xs:List ni)(c:Int)(W:jT):Prop:=
 (c=0/\(lf<0\/(N:Int)<=lf)/\Dv W0 d L g hb (CQ ws j xs) (MU (lK lf N)) (λ_=>0) W)\/(c=12/\Aml lf W0 d L g hb ws j xs N W)
def allI(lf:Int)(W0:jT)(d L g:Nat)(hb:Nat->Option Nat)(ws:Nat->ni)(j:Nat)(xs:List ni)(m k:Nat)(W:jT):Prop:=
 (lf<0\/(k:Int)<=lf)/\
 if k<=xs.length then∃len:Mode,len.lf=lK lf k/\(∀a,len a<=k)/\gJ ws j xs.length len/\Dv W0 d L g hb (CQ ws j (xs.take k)) len (λ_=>0) W
 else if k<=xs.length+m then∃len:Mode,len.lf=lK lf k/\(∀a,len a<=xs.length)/\gJ ws j xs.length len/\Dv W0 d L g hb (CQ ws j xs) len (λa=>if j/8<=a/\a<j/8+(k-xs.length)then len a+1 else 0) W
 else Dv W0 d L g hb (CQ ws j xs) (MU (lK lf k)) (λ_=>0) W
def Ac0{lf:Int}{W0:jT}{d L g:Nat}{hb:Nat->Option Nat}{ws:Nat->ni}{j:Nat}{xs:List ni}{m k:Nat}{W:jT}(h:allI lf W0 d L g hb ws j xs m k W):Touch (FZ d L g hb) W0 W:=by
 have h:=h.2;split at h
 ·obtain⟨_,_,_,_,_,_,_,t⟩:=h;exact t
 ·split at h
  ·obtain⟨_,_,_,_,_,_,_,t⟩:=h;exact t
  ·obtain⟨_,_,_,t⟩:=h;exact t
def gK{lf:Int}{k N:Nat}(h:lK lf k=0)(a:k<N):0<=lf/\lf<N:=by
 unfold lK at h;split at h<;>omega
section
variable{lf:Int}{W0 W:jT}{d L g:Nat}{hb:Nat->Option Nat}{ws:Nat->ni}{j:Nat}{xs:List ni}{m:Nat}
def Aib(s:L<=1024)(J:j+xs.length<=8*L)(_:∀a,j<=a->a<j+xs.length->j/8<=a/8/\a/8<j/8+m){k:Nat}(D:k<xs.length)(K:xs.length<=100000)(h:allI lf W0 d L g hb ws j xs m k W):
 Calls prog 76 #[AB d,gz iU ((8*(j+k):Nat):Int),gz iV (xs[k].toNat:Int)] W λl w'=>∃c:Int,l=iO c/\((c=0/\allI lf W0 d L g hb ws j xs m (k+1) w')\/(c=12/\Aml lf W0 d L g hb ws j xs (xs.length+m+1) w')):=by
 obtain⟨E,h⟩:=h;rw[kX O]at h;obtain⟨len,r,e,n,o⟩:=h;by_cases f:len.lf=0
 ·obtain⟨H,I,C⟩:=o.tC f;refine(gp d L g (8*(j+k)) _ H I W O s C).ro ?_;obtain⟨v,w⟩:=gK (N:=xs.length+m+1) (r.symm.trans f) O;exact⟨12,rfl,.inr ⟨rfl,v,w,len,_,_,f,λa=>Ω (e a),n,λq=>Acy ws j xs k q,o⟩⟩
 ·refine(Amh o s f (j+k) xs[k] O (Ω (e ((j+k)/8)))).mono ?_;rintro l w'⟨rfl,i,u,t⟩;rw[Acx ws j xs k D]at t;have G:CQ ws j (xs.take k) (j+k)=ws (j+k):=by unfold CQ;rw[lg (by simp;omega)]
  rw[G]at u;have F:i.lf=len.lf/\(∀a,i a<=k+1)/\gJ ws j xs.length i:=by
   rcases u with rfl|rfl
   ·exact⟨rfl,λa=>Ω (e a),n⟩
   ·refine⟨rfl,λa=>?_,λa c b=>?_⟩
    ·rw[Mode.UL];split
     ·have:=e ((j+k)/8);omega
     ·have:=e a;omega
    ·change c∈(if a=(j+k)/8 then len.bQ ((j+k)/8)++[(8*((j+k)%8),ws (j+k))]else len.bQ a)at b;split at b
     ·rename_i l;rcases List.mem_append.1 b with b|b
      ·rw[<-l]at b;exact n a c b
      ·rw[List.mem_singleton]at b;subst b;have z:8*a+(j+k)%8=j+k:=O;exact⟨(j+k)%8,O,rfl,O,O,by show ws (j+k)=_;rw[z]⟩
     ·exact n a c b
  obtain⟨p,A,B⟩:=F;obtain⟨x,y⟩:=gI (len:=i) (p.trans r) (by rw[p];exact f) E;refine⟨0,rfl,.inl ⟨rfl,y,?_⟩⟩;rw[kX O];exact⟨i.tick,x,A,B,t⟩
def Aic(p:L<=1024)(H:j+xs.length<=8*L)(C:∀t,t<m->8*(j/8+t)<j+xs.length){t:Nat}(D:t<m)(J:xs.length<=100000)(off:Nat)(y:off/64=j/8+t)(h:allI lf W0 d L g hb ws j xs m (xs.length+t) W):
 Calls prog 78 #[AB d,off] W λb w'=>∃c:Int,b=iO c/\((c=0/\allI lf W0 d L g hb ws j xs m (xs.length+t+1) w')\/(c=12/\Aml lf W0 d L g hb ws j xs (xs.length+m+1) w')):=by
 have I:=C t D;obtain⟨B,h⟩:=h;have z:∃len:Mode,len.lf=lK lf (xs.length+t)/\(∀a,len a<=xs.length)/\gJ ws j xs.length len/\Dv W0 d L g hb (CQ ws j xs) len (λa=>if j/8<=a/\a<j/8+t then len a+1 else 0) W:=by
  by_cases f:t=0
  ·subst f;rw[kX O]at h;obtain⟨len,G,r,v,c⟩:=h;refine⟨len,G,r,v,?_⟩;rw[Nat.add_zero,I7]at c;have:(λa=>if j/8<=a/\a<j/8+0 then len a+1 else 0)=λ_=>0:=by funext a;rw[lg O]
   rw[this];exact c
  ·rw[lg O,kX O,Ut]at h;exact h
 obtain⟨len,f,k,o,l⟩:=z;by_cases e:len.lf=0
 ·obtain⟨E,F,A⟩:=l.tC e;refine(gq d L g off E F W O p A).ro ?_;obtain⟨s,u⟩:=gK (N:=xs.length+m+1) (f.symm.trans e) O;exact⟨12,rfl,.inr ⟨rfl,s,u,len,_,_,e,λa=>Ω (k a),o,λq=>.inr rfl,l⟩⟩
 ·refine(Ami l p e off O (Ω (k (off/64)))).mono ?_;rintro b w'⟨rfl,n⟩;obtain⟨w,x⟩:=gI f e B;refine⟨0,rfl,.inl ⟨rfl,x,?_⟩⟩;rw[lg O,kX O];refine⟨len.tick,w,k,o,?_⟩;rw[y]at n;have:(λi=>if i=j/8+t then len (j/8+t)+1 else if j/8<=i/\i<j/8+t then len i+1 else 0)=(λa=>if j/8<=a/\a<j/8+(xs.length+t+1-xs.length)then len a+1 else 0):=by
   funext a;by_cases b:a=j/8+t
   ·subst b;rw[kX rfl,kX O]
   ·rw[lg b];by_cases h:j/8<=a/\a<j/8+t
    ·rw[kX h,kX O]
    ·rw[lg h,lg O]
  rw[this]at n;exact n
def Aid(o:L<=1024)(z:0<L)(H:xs.length<=100000)(F:0<m)(G:j/8+m<=L)(C:∀a,j<=a->a<j+xs.length->j/8<=a/8/\a/8<j/8+m)(h:allI lf W0 d L g hb ws j xs m (xs.length+m) W):
 Calls prog 42 #[AB d] W λb w'=>∃c:Int,b=iO c/\((c=0/\allI lf W0 d L g hb ws j xs m (xs.length+m+1) w')\/(c=12/\Aml lf W0 d L g hb ws j xs (xs.length+m+1) w')):=by
 obtain⟨B,h⟩:=h;rw[lg O,kX O,Ut]at h;obtain⟨len,f,k,n,i⟩:=h;by_cases e:len.lf=0
 ·obtain⟨D,E,y⟩:=i.tC e;refine(gu d L g D E W O o y).ro ?_;obtain⟨r,s⟩:=gK (N:=xs.length+m+1) (f.symm.trans e) O;exact⟨12,rfl,.inr ⟨rfl,r,s,len,_,_,e,λa=>Ω (k a),n,λq=>.inr rfl,i⟩⟩
 ·refine(Amj i o z e (λa _=>?_) (λa _=>Ω (k a))).mono ?_
  ·by_cases b:j/8<=a/\a<j/8+m
   ·right;show(if _ then _ else _)=_;rw[kX b]
   ·left;show(if _ then _ else _)=_;rw[lg b]
  rintro b w'⟨rfl,p⟩;obtain⟨u,v⟩:=gI f e B;refine⟨0,rfl,.inl ⟨rfl,v,?_⟩⟩;rw[lg O,lg O];have w:(We L len (λa=>if j/8<=a/\a<j/8+m then len a+1 else 0)).tick=MU (lK lf (xs.length+m+1)):=by
   rw[<-u];show Mode.mk (λa=>if a<L/\(λa=>if j/8<=a/\a<j/8+m then len a+1 else 0) a≠0 then[]else len.bQ a) _=Mode.mk (λ_=>[]) _;congr 1;funext a;by_cases b:j/8<=a/\a<j/8+m
   ·rw[kX ⟨O,by show(if _ then _ else _)≠0;rw[kX b];omega⟩]
   ·rw[lg (by rintro⟨_,f⟩;exact f (lg b))];cases A:len.bQ a with
    |nil=>rfl
    |cons c l=>
     obtain⟨t,t1,t2,t3,t4,t5⟩:=n a c (by rw[A];exact Bf ..);have:=C (8*a+t) t3 t4;exact absurd (show j/8<=a/\a<j/8+m by omega) b
  have x:OD L (λa=>if j/8<=a/\a<j/8+m then len a+1 else 0)=λ_=>0:=by
   funext a;unfold OD;by_cases b:a<L
   ·rw[kX b]
   ·rw[lg b];exact lg O
  rw[w,x]at p;exact p
def Dv.back{w:jT}{a:Nat->ni}{len:Mode}{o7:Nat->Nat}(h:Dv W0 d L g hb a len o7 W)(c:η w W0):Dv w d L g hb a len o7 W:=by
 obtain⟨f,i,j,k⟩:=h;exact⟨f,λb h=>(i b h).imp id (λe=>AZ c.size e),j,(mD c).trans k (λb=>.inl)⟩
def Wrote.back{w:jT}{N:Nat}{c:Int}(h:Wrote lf N W0 d L g hb ws j xs c W)(f:η w W0):Wrote lf N w d L g hb ws j xs c W:=by
 rcases h with⟨a,b,e⟩|⟨a,b,e,len,i,o7,k,l,m,n,o⟩
 ·exact .inl ⟨a,b,e.back f⟩
 ·exact .inr ⟨a,b,e,len,i,o7,k,l,m,n,o.back f⟩
def Wrote.up{N:Nat}{c:Int}(h:Wrote (-1) N W0 d L g hb ws j xs c W):c=0/\Dv W0 d L g hb (CQ ws j xs) M0 (λ_=>0) W:=by
 rcases h with⟨a,b,e⟩|⟨_,b,_⟩
 ·exact⟨a,e⟩
 ·omega
end
def Yb(l:Array ku)(W:jT):(callFunc 75 l).run prog W=.ok (.enter 75 l) W:=by
 simp[callFunc,func75,Tryz.f75]
def Yc(l:Array ku)(W:jT):(callFunc 77 l).run prog W=.ok (.enter 77 l) W:=by
 simp[callFunc,func77,Tryz.f77]
def Yd(l:Array ku)(W:jT):(callFunc 42 l).run prog W=.ok (.enter 42 l) W:=by
 simp[callFunc,func42,Tryz.f42]
structure Stp(d:Nat)(own:Nat->Prop)(j m:Nat)(xs:List ni)(W0:jT)(I:Nat->jT->Prop)(J:jT->Prop):Prop where
 start:I 0 W0
 touch:∀k W,I k W->Touch own W0 W
 store:∀k(hk:k<xs.length)W,I k W->Calls prog 76 #[AB d,gz iU ((8*(j+k):Nat):Int),gz iV (xs[k].toNat:Int)] W λe w'=>∃c:Int,e=iO c/\((c=0/\I (k+1) w')\/(c=12/\J w'))
 flush:∀t,t<m->∀off:Nat,off/64=j/8+t->∀W,I (xs.length+t) W->Calls prog 78 #[AB d,off] W λe w'=>∃c:Int,e=iO c/\((c=0/\I (xs.length+t+1) w')\/(c=12/\J w'))
 fence:∀W,I (xs.length+m) W->Calls prog 42 #[AB d] W λe w'=>∃c:Int,e=iO c/\((c=0/\I (xs.length+m+1) w')\/(c=12/\J w'))
def Agd{lf:Int}{W0:jT}{d L g:Nat}{hb:Nat->Option Nat}{ws:Nat->ni}{j:Nat}{xs:List ni}{m:Nat}(k:0<L)(b:L<=1024)(h:Dz W0 d L ws (MU lf) (λ_=>0) g hb)(f:j+xs.length<=8*L)(c:xs.length<=100000)(l:0<m)(o:j/8+m<=L)
 (i:∀a,j<=a->a<j+xs.length->j/8<=a/8/\a/8<j/8+m)(n:∀t,t<m->8*(j/8+t)<j+xs.length):Stp d (FZ d L g hb) j m xs W0 (allI lf W0 d L g hb ws j xs m) (Aml lf W0 d L g hb ws j xs (xs.length+m+1))where
 start:=by
  refine⟨O,?_⟩;rw[kX (Bd _)];refine⟨MU lf,(Amk lf).symm,λ_=>Ae _,Acz _ _ _ _,?_⟩;rw[Aqn,Ah9];exact Dv.start h  mZ
 touch _ _ hi:=Ac0 hi
 store _ hk _ hi:=Aib b f i hk c hi
 flush _ ht off e _ hi:=Aic b f n ht c off e hi
 fence _ hi:=Aid b k c l o i hi
def yj{W0:jT}{d L g:Nat}{a b:ku}(f:0<L)(e:L<=1024)(c:Cm W0 d 70 [fM (jm (Φ g)) L L,jO,a,b])(own:Nat->Prop)(j m:Nat)(xs:List ni):Stp d own j m xs W0 (λi W=>i=0/\W=W0) (·=W0)where
 start:=⟨rfl,rfl⟩
 touch _ _ hi:=hi.2▸mP
 store i _ W hi:=by
  obtain⟨_,rfl⟩:=hi;refine(gp d L g (8*(j+i)) _ a b W f e c).ro ?_;exact⟨12,rfl,.inr ⟨rfl,rfl⟩⟩
 flush _ _ off _ W hi:=by
  obtain⟨_,rfl⟩:=hi;refine(gq d L g off a b W f e c).ro ?_;exact⟨12,rfl,.inr ⟨rfl,rfl⟩⟩
 fence W hi:=by
  obtain⟨_,rfl⟩:=hi;refine(gu d L g a b W f e c).ro ?_;exact⟨12,rfl,.inr ⟨rfl,rfl⟩⟩
def Aq8{own:Nat->Prop}{p:Nat->jT->Prop}{q:jT->Prop}(d j:Nat)(x:ni)(w W0:jT)(A:∀b,w.heap.size<=b->¬own b)(f:Stp d own j 1 [x] W0 p q)
 (g i l m n s:Nat)(T:TypeId)(H:w.heap.size<=g)(I:w.heap.size<=i)(J:w.heap.size<=l)(K:w.heap.size<=m)(L:w.heap.size<=n)(N:w.heap.size<=s)
 (B:W0.cell? (Φ g)=jm (AB d))(C:W0.cell? (Φ i)=jm (gz iU ((8*j:Nat):Int)))(D:W0.cell? (Φ l)=jm (gz iV (x.toNat:Int)))
 (E:W0.cell? (Φ m)=jm (AB d))(F:W0.cell? (Φ n)=jm (gz iU ((8*j:Nat):Int)))
 (u:W0.heap[s]?=jm (ji #[.func (.func 75) #[] #[AB g,AB i,AB l],.func (.func 77) #[] #[AB m,AB n],.func (.func 42) #[AB d] #[]] T (0,0))):
 Calls prog 41 #[fM (jm (Φ s)) 3 3] W0 λG w'=>∃c:Int,G=iO c/\((c=0/\p 3 w')\/(c=12/\q w')):=by
 have o:∀{k W},p k W->∀(b:Nat)(v:ku),w.heap.size<=b->W0.cell? (Φ b)=jm v->W.cell? (Φ b)=jm v:=λe b v M y=>
  (BQ (a:=Φ b) ((f.touch _ _ e).block b (Hq W0 (Φ b) y) (A b M))).trans y
 refine(oI _ 3 3 (λk=>if k=0 then 75 else if k=1 then 77 else 42)
  (λk=>if k=2 then#[AB d]else#[])
  (λk=>if k=0 then#[AB g,AB i,AB l]else if k=1 then#[AB m,AB n]else#[])
  p q W0 U f.start ?_ ?_ ?_)
 ·intro k r W
  match k,r with
  |0,_=>exact Yb _ W
  |1,_=>exact Yc _ W
  |2,_=>exact Yd _ W
 ·intro k W e;have z:=((f.touch _ _ e).block s (AL.1 u).1 (A s N)).trans u;refine⟨rfl,λ_=>⟨s,0,rfl,(AL.1 z).1,λt P=>?_⟩⟩;rw[Du,cell_of_row W s t _ T (0,0) z]
  match t,P with
  |0,_=>rfl
  |1,_=>rfl
  |2,_=>rfl
 ·intro k W r e
  match k,r with
  |0,_=>exact gB g i l _ _ _ W (o e _ _ H B) ⟨_,rfl⟩ (o e _ _ I C) (o e _ _ J D) (f.store 0 Θ W e)
  |1,_=>
   exact gG m n _ _ W (o e _ _ K E) ⟨_,rfl⟩ (o e _ _ L F) (f.flush 0 U (8*j) O W e)
  |2,_=>exact f.fence W e
def Agf{own:Nat->Prop}{e:jT->Nat->jT->Prop}{f:jT->jT->Prop}(d j:Nat)(x:ni)(w:jT)(n:∀a,own a->a<w.heap.size)(m:∀W0,η w W0->Stp d own j 1 [x] W0 (e W0) (f W0)):
 Calls prog 169 #[AB d,gz iU ((8*j:Nat):Int),x] w λb w'=>∃W0,η w W0/\∃c:Int,b=iO c/\((c=0/\e W0 3 w')\/(c=12/\f W0 w')):=by
 have l:=Ac (λa(q:w.heap.size<=a)(r:own a)=>Abz _ (Bc (n a r) q));have k:=Ac m;clear n m;go_in;go_wp2_with fail;refine(yf d _ _ w).mono ?_;rintro b w'⟨rfl,rfl⟩;go_wp2_with fail;refine(yh d _ _).mono ?_;rintro b w'⟨rfl,rfl⟩;go_wp2_with fail;have i:=((((((Below.refl w.heap.size w).alloc (Ae _) (ji #[AB d] 27)).alloc Θ (ji #[gz iU (8*(j:Int))] 3)).alloc (by simp;omega) (ji #[x] 47)).alloc (by simp;omega) (ji #[AB d] 27)).alloc (by simp;omega) (ji #[gz iU (8*(j:Int))] 3)).alloc (by simp;omega)
  (ji #[.func (.func 75) #[] #[AB w.heap.size,AB (w.heap.size+1),AB (w.heap.size+1+1)],.func (.func 77) #[] #[AB (w.heap.size+1+1+1),AB (w.heap.size+1+1+1+1)],.func (.func 42) #[AB d] #[]] 105)
 refine(Aq8 d j x w _ l (k _ i) w.heap.size (w.heap.size+1) (w.heap.size+1+1) (w.heap.size+1+1+1) (w.heap.size+1+1+1+1) (w.heap.size+1+1+1+1+1) 105 O O O O O O ((D6 _ _ _ (by first|(simp;done)|(simp;omega))).trans<|((D6 _ _ _ (by first|(simp;done)|(simp;omega))).trans<|((D6 _ _ _ (by first|(simp;done)|(simp;omega))).trans<|((D6 _ _ _ (by first|(simp;done)|(simp;omega))).trans<|((D6 _ _ _ (by first|(simp;done)|(simp;omega))).trans<|by simp))))) (by simp[D6,KJ]) (by simp[D6,KJ]) (by simp[D6,KJ]) (by simp[D6,KJ]) (by rw[show w.heap.size+1+1+1+1+1=((((((w.alloc (ji #[AB d] 27)).alloc (ji #[gz iU (8*(j:Int))] 3)).alloc (ji #[x] 47)).alloc (ji #[AB d] 27)).alloc (ji #[gz iU (8*(j:Int))] 3))).heap.size by simp];exact heap_alloc_new _ _)).mono ?_;rintro b w'⟨c,rfl,o⟩;have p:=Ac (⟨_,i,c,rfl,o⟩:∃W0,η w W0/\∃g:Int,Ending.returned c=iO g/\((g=0/\e W0 3 w')\/(g=12/\f W0 w')));clear o i l k;go_wp2;go_ret;exact p
def Amm(lf:Int)(d L g:Nat)(hb:Nat->Option Nat)(ws:Nat->ni)(j:Nat)(x:ni)(w:jT)(l:0<L)(k:L<=1024)(h:Dz w d L ws (MU lf) (λ_=>0) g hb)(n:j<8*L):
 Calls prog 169 #[AB d,gz iU ((8*j:Nat):Int),x] w λf w'=>∃c:Int,f=iO c/\Wrote lf 3 w d L g hb ws j [x] c w':=by
 refine(Agf d j x w h.lt (λW0 e=>Agd (m:=1) l k (h.below e) (xs:=[x]) (by simp only[Bg,CV];omega) Θ U O (λp b i=>by simp only[Bg,CV]at i;omega) (λt o=>by simp only[Bg,CV];omega))).mono ?_;rintro f w'⟨W0,e,c,rfl,a⟩;refine⟨c,rfl,Wrote.back (W0:=W0) ?_ e⟩;rcases a with⟨b,a⟩|⟨b,a⟩
 ·refine .inl ⟨b,a.1,?_⟩;have:=a.2;rw[lg Θ,lg Θ]at this;exact this
 ·exact .inr ⟨b,a⟩
def Amn(d L g j:Nat)(x:ni)(k l:ku)(_:Nat->Prop)(w:jT)(i:0<L)(f:L<=1024)(e:Cm w d 70 [fM (jm (Φ g)) L L,jO,k,l]):
 Calls prog 169 #[AB d,gz iU ((8*j:Nat):Int),x] w λa w'=>a=iO (gz iU 12)/\η w w':=by
 refine(Agf (own:=λ_=>False) d j x w (λ_ h=>h.elim) (λW0 hb=>yj i f (e.ξ hb) _ j 1 [x])).mono ?_;rintro a w'⟨W0,hb,c,rfl,⟨_,b,_⟩|⟨rfl,rfl⟩⟩
 ·exact absurd b U
 ·exact⟨rfl,hb⟩
def Su(ws:Nat->ni)(j n:Nat):List ni:=(Ea n).map λt=>ws (j+t)
def J3(ws:Nat->ni)(j n k:Nat):List ni:=(Ea n).map λt=>if t<k then ws (j+t)else 0
def mM(ws:Nat->ni)(j n:Nat):J3 ws j n 0=BJ n 0:=by
 apply ER<;>simp[J3]
def tH(ws:Nat->ni)(j n:Nat):J3 ws j n n=Su ws j n:=by
 apply ER
 ·simp[J3,Su]
 ·intro t a b;have:t<n:=by simpa[J3]using a
  simp[J3,Su,this]
def tJ(ws:Nat->ni)(j n k:Nat):((J3 ws j n k).map wv).set k (wv (ws (j+k)))=(J3 ws j n (k+1)).map wv:=by
 rw[<-O9];congr 1;apply ER
 ·simp[J3]
 ·intro t b c;rw[MX];by_cases a:k=t
  ·subst a;rw[kX rfl];simp[J3]
  ·rw[lg a];have:(t<k+1)=(t<k):=by apply propext;omega
   simp[J3,this]
def tK(d L:Nat)(ws:Nat->ni)(len:Mode)(o7:Nat->Nat)(g:Nat)(hb:Nat->Option Nat)(j n:Nat)(w:jT)(J:0<L)(m:L<=1024)(D:len.lf≠0)(h:Dz w d L ws len o7 g hb)(M:j+n<=8*L):
 Calls prog 86 #[AB d,gz iU ((8*j:Nat):Int),n] w λA w'=>∃v,A=iO (iJ #[v,gz iU 0])/\
  w'.ownsRow w 47 1 v n ((Su ws j n).map wv)/\η w w':=by
 obtain⟨H,B,E,F,G⟩:=info_parts Tryz.JL.hi;obtain⟨Q,r⟩:=h.box;have l:=Ac (Za d L g (8*j) n _ _ _ w O m r O O);have x:=Ac h;clear h r;go_in;go_wp2_with fail;refine l.ro ?_;clear l;go_wp2_with(at_make;refine wpList_make_full _ rfl _ _ 76 rfl w 47 H (gz iV 0) 1 underlying76 B E F iU iU _ _ n rfl rfl rfl rfl (by rw[G];omega) (by unfold maxLen;omega) (Ae _) ?_;intro I e s);rw[NT,<-mM ws j n]at e;have o:η w I:=mZ.grown s (Ae _) Θ;clear s;go_loopw [24](λi wr=>∃a:Nat,a<=n/\i=gz iU a/\wr.ownsRow w 47 1 (fM (jm (Φ w)) n n) n ((J3 ws j n a).map wv)/\η w wr)(λi _=>n-(intOf i).toNat)
 case atStart=>exact⟨0,Bd _,rfl,e,o⟩
 case round=>
  obtain⟨a,N,rfl,b,c⟩:=hrel;clear e o;by_cases t:a<n
  ·have k:=Ac (XZ d L ws len o7 g hb (j+a) wr m D (x.below c) O);obtain⟨⟨R,P⟩,K⟩:=XX b t;have f:=QS (u:=wv (ws (j+a))) b t;rw[tJ]at f;have z:=Ac f;have q:=c.setCell (p:=Δ w a) (Ae _) (wv (ws (j+a)));have y:=Ac q;clear b f q c;go_wp2_with(rw[show(8*(j:Int)+8*(a:Int))=((8*(j+a):Nat):Int)by omega];refine k.ro ?_;clear k);exact⟨⟨a+1,O,by go_num,z,y⟩,mz⟩
  ·have C:a=n:=O;subst C;rw[tH]at b;go_wp2;go_ret2;exact⟨_,rfl,b,c⟩
def Amo(d L g j n:Nat)(k l:ku)(w:jT)(q:0<L)(c:L<=1024)(h:Cm w d 70 [fM (jm (Φ g)) L L,jO,k,l])(y:j+n<=8*L)(z:0<n):
 Calls prog 86 #[AB d,gz iU ((8*j:Nat):Int),n] w λp w'=>p=iO (iJ #[fM jw 0 0,gz iU 12])/\η w w':=by
 obtain⟨x,r,t,u,v⟩:=info_parts Tryz.JL.hi;have b:=Ac (Za d L g (8*j) n _ _ _ w O c h O O);have o:=Ac h;clear h;go_in;go_wp2_with fail;refine b.ro ?_;clear b;go_wp2_with(at_make;refine wpList_make_full _ rfl _ _ 76 rfl w 47 x (gz iV 0) 1 underlying76 r t u iU iU _ _ n rfl rfl rfl rfl (by rw[v];omega) (by unfold maxLen;omega) (Ae _) ?_;intro m s f);have e:η w m:=mZ.grown f (Ae _) Θ;clear f;go_loopw [24](λi wr=>i=gz iU 0/\wr=m)(λi _=>0)
 case atStart=>exact⟨rfl,rfl⟩
 case round=>
  obtain⟨rfl,rfl⟩:=hrel;have a:=Ac (oH d L g (8*j) k l wr q c (o.out.ξ e));clear s;go_wp2_with(rw[show(8*(j:Int))=((8*j:Nat):Int)by omega];refine a.ro ?_;clear a);go_ret2;exact⟨rfl,e⟩
def Ye(w:jT)(B d:Nat)(v:ku)(j:Nat)(x:ni):Prop:=
 ∃a b c,v=.func (.func 75) #[] #[AB a,AB b,AB c]/\B<=a/\B<=b/\B<=c/\
  w.heap[a]?=jm (ji #[AB d] 27 (0,0))/\w.heap[b]?=jm (ji #[gz iU ((8*j:Nat):Int)] 3 (0,0))/\w.heap[c]?=jm (ji #[x] 47 (0,0))
def gQ(w:jT)(B d:Nat)(v:ku)(off:Nat):Prop:=
 ∃a b,v=.func (.func 77) #[] #[AB a,AB b]/\B<=a/\B<=b/\
  w.heap[a]?=jm (ji #[AB d] 27 (0,0))/\w.heap[b]?=jm (ji #[off] 3 (0,0))
def Ux(T:TypeId)(w w':jT):Prop:=∀(b:Nat)(a:Array ku)(t:TypeId)(c:Nat×Nat),t≠T->w.heap[b]?=jm (ji a t c)->w'.heap[b]?=jm (ji a t c)
def Ux.below{T:TypeId}{w w':jT}(h:η w w'):Ux T w w':=λb _ _ _ _ a=>(h.block b (AL.1 a).1).trans a
def Ye.stays{w w':jT}{B d:Nat}{v:ku}{j:Nat}{x:ni}(h:Ye w B d v j x)(k:Ux 105 w w'):Ye w' B d v j x:=by
 obtain⟨a,b,c,i,l,m,n,e,f,g⟩:=h;exact⟨a,b,c,i,l,m,n,k _ _ _ _ U e,k _ _ _ _ U f,k _ _ _ _ U g⟩
def gQ.stays{w w':jT}{B d:Nat}{v:ku}{off:Nat}(h:gQ w B d v off)(k:Ux 105 w w'):gQ w' B d v off:=by
 obtain⟨a,b,f,g,i,c,e⟩:=h;exact⟨a,b,f,g,i,k _ _ _ _ U c,k _ _ _ _ U e⟩
def Tryz.tN:OA prog 104 105 .nilFunc 8:=⟨underlying104,by kernel_rfl,rfl⟩
def Ux.kept{T:TypeId}{w w':jT}{d n:Nat}{v:ku}{xs:List ku}(f:w.ownsRow d T 1 v n xs)(h:Kept w w' v.ownBlock):Ux T w w':=by
 intro c k t m i b;refine(h.2 c (AL.1 b).1 (λhb=>?_)).trans b;rcases f.2 with⟨rfl,_⟩|⟨g,j,l,rfl,_,a,_⟩
 ·cases hb
 ·have:c=g:=by simpa[AY]using hb
  subst this;rw[b]at a;injection a with a
  injection a with _ e _
  exact i e
def mO(B d j:Nat)(x:ni)(w:jT)(c:B<=w.heap.size):
 Calls prog 39 #[AB d,gz iU ((8*j:Nat):Int),x] w λb w'=>∃a,b=iO a/\Ye w' B d a j x/\a.oneCell'=jO/\η w w':=by
 refine(yf d _ _ w).mono ?_;rintro b w'⟨rfl,rfl⟩;have e:(w.alloc (ji #[AB d] 27)).heap.size=w.heap.size+1:=by simp
 have f:((w.alloc (ji #[AB d] 27)).alloc (ji #[gz iU ((8*j:Nat):Int)] 3)).heap.size=w.heap.size+1+1:=by simp
 refine⟨_,rfl,⟨w.heap.size,w.heap.size+1,w.heap.size+1+1,rfl,c,O,O,?_,?_,?_⟩,rfl,((mZ.alloc (Ae _) _).alloc O _).alloc O _⟩
 ·exact(χ _ _ O).trans ((χ _ _ O).trans (heap_alloc_new _ _))
 ·refine(χ _ _ O).trans ?_;rw[<-e];exact heap_alloc_new _ _
 ·rw[<-f];exact heap_alloc_new _ _
def mQ(B d off:Nat)(w:jT)(c:B<=w.heap.size):
 Calls prog 40 #[AB d,off] w λb w'=>∃a,b=iO a/\gQ w' B d a off/\a.oneCell'=jO/\η w w':=by
 refine(yh d _ w).mono ?_;rintro b w'⟨rfl,rfl⟩;have e:(w.alloc (ji #[AB d] 27)).heap.size=w.heap.size+1:=by simp
 refine⟨_,rfl,⟨w.heap.size,w.heap.size+1,rfl,c,O,?_,?_⟩,rfl,(mZ.alloc (Ae _) _).alloc O _⟩
 ·exact(χ _ _ O).trans (heap_alloc_new _ _)
 ·rw[<-e];exact heap_alloc_new _ _
def gU:ku->Array ku
 | .func _ _ c=>c
 |_=> #[]
def Ac1{own:Nat->Prop}{s:Nat->jT->Prop}{y:jT->Prop}(d j m:Nat)(xs:List ni)(w W0:jT)(K:∀b,w.heap.size<=b->¬own b)(i:Stp d own j m xs W0 s y)(Z:xs.length+m<1000000)
 (S:List ku)(I:∀t v L,t<xs.length->S[t]?=jm v->xs[t]?=jm L->Ye W0 w.heap.size d v (j+t) L)(J:∀t v,t<m->S[xs.length+t]?=jm v->gQ W0 w.heap.size d v (64*(j/8+t)))
 (q:S[xs.length+m]?=jm (.func (.func 42) #[AB d] #[]))(P:S.length=xs.length+m+1)
 (A:Option Addr)(c:Nat)(V:Rd W0 A (xs.length+m+1) S)(M:∀u,A=jm u->w.heap.size<=u.block):
 Calls prog 41 #[fM A ((xs.length+m+1:Nat)) c] W0 λf w'=>∃c:Int,f=iO c/\((c=0/\s (xs.length+m+1) w')\/(c=12/\y w')):=by
 have r:∀{k W},s k W->∀(b:Nat)(B:Array ku)(t:TypeId),w.heap.size<=b->W0.heap[b]?=jm (ji B t (0,0))->W.heap[b]?=jm (ji B t (0,0)):=λe b B t R x=>
  ((i.touch _ _ e).block b (AL.1 x).1 (K b R)).trans x
 have p:∀{W:jT}{b:Nat}{v:ku}{t:TypeId},W.heap[b]?=jm (ji #[v] t (0,0))->W.cell? (Φ b)=jm v:=λx=>by rw[cell_of_row _ _ 0 _ _ (0,0) x];rfl
 refine(oI A (xs.length+m+1) c (λk=>if k<xs.length then 75 else if k<xs.length+m then 77 else 42)
  (λk=>if k=xs.length+m then#[AB d]else#[]) (λk=>gU (S.getD k .nilFunc)) s y W0 O i.start ?_ ?_ ?_)
 ·intro k Q W;by_cases g:k<xs.length
  ·simp only[kX g];exact Yb _ W
  ·by_cases C:k<xs.length+m
   ·simp only[lg g,kX C];exact Yc _ W
   ·simp only[lg g,lg C];exact Yd _ W
 ·intro k W e;have U:Rd W A (xs.length+m+1) S:=V.touch (i.touch _ _ e) (λu f T=>K _ (M u f) T);have N:S=(Ea (xs.length+m+1)).map λk=>Axr (.func (if k<xs.length then 75 else if k<xs.length+m then 77 else 42)) (if k=xs.length+m then#[AB d]else#[]) (gU (S.getD k .nilFunc)):=by
   apply ER
   ·simp[P]
   ·intro t g C;rw[List.getElem_map,List.getElem_range,Bv,Ag g];by_cases a:t<xs.length
    ·obtain⟨l,n,H,f,_⟩:=I t _ _ a (Ag g) (Ag a);rw[kX a,lg O,f];rfl
    ·by_cases o:t<xs.length+m
     ·obtain⟨l,n,f,_⟩:=J (t-xs.length) S[t] O (by rw[show xs.length+(t-xs.length)=t by omega];exact Ag g);rw[lg a,kX o,lg O,f];rfl
     ·have z:t=xs.length+m:=O;subst z;rw[Ag g]at q;injection q with q
      rw[lg a,lg o,kX rfl,q];rfl
  rw[<-N];exact U
 ·intro k W Q e;by_cases a:k<xs.length
  ·obtain⟨l,n,H,f,F,G,Y,D,E,X⟩:=I k _ _ a (Ag O) (Ag a);simp only[kX a,lg (show¬k=xs.length+m by omega),Bv,Ag (show k<S.length by omega),RV,f,gU];exact gB l n H _ _ _ W (p (r e _ _ _ F D)) ⟨_,rfl⟩ (p (r e _ _ _ G E)) (p (r e _ _ _ Y X)) (i.store k a W e)
  ·by_cases o:k<xs.length+m
   ·obtain⟨l,n,f,F,G,D,E⟩:=J (k-xs.length) S[k] O (by rw[show xs.length+(k-xs.length)=k by omega];exact Ag O);simp only[lg a,kX o,lg (show¬k=xs.length+m by omega),Bv,Ag (show k<S.length by omega),RV,f,gU];have:=i.flush (k-xs.length) O (64*(j/8+(k-xs.length))) O W (by rw[show xs.length+(k-xs.length)=k by omega];exact e);rw[show xs.length+(k-xs.length)+1=k+1 by omega]at this;exact gG l n _ _ W (p (r e _ _ _ F D)) ⟨_,rfl⟩ (p (r e _ _ _ G E)) this
   ·have z:k=xs.length+m:=O;subst z;simp only[lg a,lg o,if_true,Bv,q,RV,gU];exact i.fence W e
def gV{own:Nat->Prop}{W:jT->Nat->jT->Prop}{X:jT->jT->Prop}(d L g:Nat)(bg K T:ku)(j n c:Nat)(A:Option Addr)(xs:List ni)(w:jT)(bk:0<L)(a7:L<=1024)(av:Cm w d 70 [fM (jm (Φ g)) L L,bg,K,T])(aG:∀z,own z->z<w.heap.size)(bp:j+n<=8*L)(bt:0<n)(ac:Ws w A n xs)
 (x:∀W0,η w W0->Stp d own j ((j+n-1)/8-j/8+1) xs W0 (W W0) (X W0)):
 Calls prog 22 #[AB d,gz iU ((8*j:Nat):Int),fM A n c] w λo w'=>∃W0,η w W0/\∃c:Int,o=iO c/\((c=0/\W W0 (n+((j+n-1)/8-j/8+1)+1) w')\/(c=12/\X W0 w')):=by
 have am:=Ac (λz(b:w.heap.size<=z)(k:own z)=>Abz _ (Bc (aG z k) b));have al:=Ac (Za d L g (8*j) n _ _ _ w O a7 av O O);have bb:=ac.len;have a2:=Ac ac;obtain⟨m,aE,bs,az,aD⟩:∃m,m=(j+n-1)/8-j/8+1/\0<m/\(∀l,j<=l->l<j+n->j/8<=l/8/\l/8<j/8+m)/\(∀t,t<m<->8*(j/8+t)<j+n):=⟨(j+n-1)/8-j/8+1,rfl,O,λl b k=>O,λt=>O⟩;have t9:=dT ((0:Int)<(n:Int));rw[<-aE]at x⊢;have ae:=Ac x;clear aE x;have bi:=Ac az;have Y:=Ac aD;clear av ac az aD aG;go_in;go_wp2_with(refine al.out.ro ?_;clear al);have ao:η w (w.alloc (ji #[] 105)):=mZ.alloc (Ae _) _;have ap:(w.alloc (ji #[] 105)).ownsRow w.heap.size 105 1 (fM (jm (Φ w)) 0 0) 0 []:=World.ownsRow_made w #[] 0 (Ae _) U rfl;go_loopw [8,24](λa l wr=>∃f q,f<=n/\l=gz iU (f:Nat)/\wr.ownsRow w.heap.size 105 1 a f q/\(∀t a i,q[t]?=jm a->xs[t]?=jm i->Ye wr w.heap.size d a (j+t) i)/\η w wr)(λ_ l _=>n-(intOf l).toNat)
 case atStart=>exact⟨0,[],Bd _,rfl,ap,by simp,ao⟩
 case round=>
  obtain⟨f,q,bq,rfl,C,x,B⟩:=hrel;clear ap ao;by_cases bc:f<n
  ·obtain⟨a9,bj,bx,rfl,bl,bm⟩:=(a2.below B).at bc;go_wp2_with fail;rw[show(8*(j:Int)+8*(f:Int))=((8*(j+f):Nat):Int)by omega];refine(mO w.heap.size d (j+f) xs[f] wr B.size).mono ?_;rintro o y⟨K,rfl,J,b,s⟩;obtain⟨F,u,rfl⟩:∃F u,K=.func F #[] u:=by obtain⟨_,_,_,o,_⟩:=J;exact⟨_,_,o⟩
   have H:=own_below C s;have I:η w y:=τ B s;have aq:∀t a i,q[t]?=jm a->xs[t]?=jm i->Ye y w.heap.size d a (j+t) i:=λt a i b k=>(x t a i b k).stays (Ux.below s)
   have aW:=Ac aq;have Z:q.length=f:=by simpa using C.1
   clear x B C s aq;go_wp2_with(at_builtin;go_loud(refine Jy rfl (.tmp 29) (.tmp 37) 104 rfl Tryz.tN y w.heap.size u8 f q [.func F #[] u] rfl H rfl rfl rfl rfl 1 1 rfl rfl (by simpa using b) (by simp;omega) U I.size ?_);intro T ad D E G);have v:=Ux.kept H G;go_roundw
   case rel=>
    refine⟨f+1,q++[.func F #[] u],O,by go_num,D,λt a i b k=>?_,I.trans E⟩;by_cases o:t<q.length
    ·rw[DK o]at b;exact(aW t a i b k).stays v
    ·have be:t=f:=by
      have:=(Cf.1 b).1;simp at this;omega
     subst be;rw[Ez O,Z,Pv]at b;rw[Ag a9]at k;simp at b k;subst b k;exact J.stays v
   case measure=>simp[intOf];omega
  ·have ba:f=n:=O;subst ba;have ah:=Ac x;have Z:q.length=f:=by simpa using C.1
   clear x;go_wp2_with fail;rw[show(8*(j:Int)/64*64)=((64*(j/8+0):Nat):Int)by omega];go_loopw [8,12](λa l V=>∃t p,t<=m/\l=gz iU ((64*(j/8+t):Nat):Int)/\V.ownsRow w.heap.size 105 1 a (f+t) p/\(∀e a i,e<f->p[e]?=jm a->xs[e]?=jm i->Ye V w.heap.size d a (j+e) i)/\(∀e a,e<t->p[f+e]?=jm a->gQ V w.heap.size d a (64*(j/8+e)))/\η w V)(λ_ l _=>8*(j+f)+64-(intOf l).toNat)
   case atStart=>exact⟨0,q,Bd _,rfl,C,λe a i _ b k=>ah e a i b k,λe a h=>absurd h O,B⟩
   case round=>
    obtain⟨t,p,bw,rfl,M,R,S,Q⟩:=hrel;clear C B ah Z;have ar:p.length=f+t:=by simpa using M.1
    have br:f+t<=20000:=by
     have:=Y (t-1);omega
    by_cases aw:t<m
    ·have a6:=(Y t).1 aw;have t1:=dT (((64*(j/8+t):Nat):Int)<8*(j:Int)+8*(f:Int));generalize au:64*(j/8+t)=a3 at*;have N:=Ac R;have P:=Ac S;clear R S;go_wp2_with fail;refine(mQ w.heap.size d a3 wr Q.size).mono ?_;rintro o y⟨K,rfl,J,b,s⟩;obtain⟨F,u,rfl⟩:∃F u,K=.func F #[] u:=by obtain⟨_,_,o,_⟩:=J;exact⟨_,_,o⟩
     have H:=own_below M s;have I:η w y:=τ Q s;have a0:Hid (∀e a i,e<f->p[e]?=jm a->xs[e]?=jm i->Ye y w.heap.size d a (j+e) i):=Ac (λe a i r b k=>(N e a i r b k).stays (Ux.below s));have a1:Hid (∀e a,e<t->p[f+e]?=jm a->gQ y w.heap.size d a (64*(j/8+e))):=Ac (λe a r b=>(P e a r b).stays (Ux.below s));clear M s N P;go_wp2_with(at_builtin;go_loud(refine Jy rfl (.tmp 56) (.tmp 60) 104 rfl Tryz.tN y w.heap.size u8 (f+t) p [.func F #[] u] rfl H rfl rfl rfl rfl 1 1 rfl rfl (by simpa using b) (by simp;omega) U I.size ?_);intro T ad D E G);have v:=Ux.kept H G;refine⟨⟨_,_,_,_,_,_,_,_,_,_,_,_,_,?_,rfl⟩,?_⟩
     ·refine⟨t+1,p++[.func F #[] u],O,by rw[<-au];go_num,by rw[<-Nat.add_assoc];exact D,λe a i r b k=>?_,λe a r b=>?_,I.trans E⟩
      ·rw[DK O]at b;exact(a0 e a i r b k).stays v
      ·by_cases o:e=t
       ·subst o;rw[Ez O,ar,Pv]at b;simp at b;subst b;rw[au];exact J.stays v
       ·rw[DK O]at b;exact(a1 e a O b).stays v
     ·simp[intOf];omega
    ·have aM:t=m:=O;subst aM;have a6:¬8*(j/8+t)<j+f:=λh=>aw ((Y t).2 h)
     have t1:=dF (((64*(j/8+t):Nat):Int)<8*(j:Int)+8*(f:Int));have N:=Ac R;have P:=Ac S;clear R S;go_wp2_with(at_builtin;go_loud(refine Jy rfl (.tmp 62) (.tmp 65) 104 rfl Tryz.tN wr w.heap.size u8 (f+t) p [.func (.func 42) #[AB d] #[]] rfl M rfl rfl rfl rfl 1 1 rfl rfl (by intro bA aL;simp at aL;subst aL;rfl) (by simp;omega) U Q.size ?_);intro T ad D E G);have v:=Ux.kept M G;obtain⟨bh,a4,rfl,bo,bd⟩:=CY D;obtain⟨a5,rfl,a8,_⟩:=Qk D O;have ab:=Q.trans E;subst bb;refine(Ac1 d j t xs w ad am (ae _ ab) O (p++[.func (.func 42) #[AB d] #[]])
      (λe a i r b k=>?_) (λe a r b=>?_) ?_ (by simp;omega) (jm (Φ a5)) a4 bd (λe aa=>by injection aa with aa;subst aa;exact a8)).mono ?_
     ·rw[DK O]at b;exact(N e a i r b k).stays v
     ·rw[DK O]at b;exact(P e a r b).stays v
     ·rw[Ez O,ar,Pv];rfl
     rintro o w'⟨an,rfl,aI⟩;have aR:=Ac (⟨_,ab,an,rfl,aI⟩:∃W0,η w W0/\∃c:Int,Ending.returned an=iO c/\((c=0/\W W0 (xs.length+t+1) w')\/(c=12/\X W0 w')));clear aI ab ae am;go_wp2;go_ret;exact aR
def ax(lf:Int)(d L g:Nat)(hb:Nat->Option Nat)(ws:Nat->ni)(j n c:Nat)(A:Option Addr)(xs:List ni)(w:jT)(k:0<L)(i:L<=1024)(h:Dz w d L ws (MU lf) (λ_=>0) g hb)(p:j+n<=8*L)(q:0<n)(m:Ws w A n xs):
 Calls prog 22 #[AB d,gz iU ((8*j:Nat):Int),fM A n c] w λf w'=>∃c:Int,f=iO c/\Wrote lf (n+((j+n-1)/8-j/8+1)+1) w d L g hb ws j xs c w':=by
 obtain⟨v,o⟩:=h.box;have l:=m.len;refine(gV d L g _ _ _ j n c A xs w k i o h.lt p q m (λW0 e=>Agd k i (h.below e) O O O O (λu b r=>O) (λt s=>O))).mono ?_;rintro f w'⟨W0,e,c,rfl,a⟩;refine⟨c,rfl,Wrote.back (W0:=W0) ?_ e⟩;rw[l]at a;rcases a with⟨b,a⟩|⟨b,a⟩
 ·refine .inl ⟨b,a.1,?_⟩;have:=a.2;rw[l,lg O,lg O]at this;exact this
 ·exact .inr ⟨b,a⟩
def yu(d L g j n c:Nat)(A:Option Addr)(xs:List ni)(m o:ku)(w:jT)(f:0<L)(e:L<=1024)(b:Cm w d 70 [fM (jm (Φ g)) L L,jO,m,o])(i:j+n<=8*L)(k:0<n)(l:Ws w A n xs):
 Calls prog 22 #[AB d,gz iU ((8*j:Nat):Int),fM A n c] w λa w'=>a=iO (gz iU 12)/\η w w':=by
 refine(gV (own:=λ_=>False) d L g _ _ _ j n c A xs w f e b (λ_ h=>h.elim) i k l (λW0 hb=>yj f e (b.ξ hb) _ j _ xs)).mono ?_;rintro a w'⟨W0,hb,c,rfl,⟨_,p,_⟩|⟨rfl,rfl⟩⟩
 ·omega
 ·exact⟨rfl,hb⟩
def Ac2(d L g:Nat)(hb:Nat->Option Nat)(ws:Nat->ni)(j n c:Nat)(A:Option Addr)(xs:List ni)(w:jT)(e:0<L)(b:L<=1024)(h:Dz w d L ws M0 (λ_=>0) g hb)(i:j+n<=8*L)(k:0<n)(m:Ws w A n xs):
 Calls prog 22 #[AB d,gz iU ((8*j:Nat):Int),fM A n c] w λa w'=>a=iO (gz iU 0)/\Dv w d L g hb (CQ ws j xs) M0 (λ_=>0) w':=by
 refine(ax (-1) d L g hb ws j n c A xs w e b h i k m).mono ?_;rintro a w'⟨o,rfl,l⟩;obtain⟨rfl,f⟩:=l.up;exact⟨rfl,f⟩
def UR(w:jT)(b:Nat)(xs:List ni):Prop:=∃c:Array ku,w.heap[b]?=jm (ji c 47 (0,0))/\∀a(h:a<xs.length),c[a]?=jm (wv xs[a])
def UR.lt{w:jT}{b:Nat}{xs:List ni}(h:UR w b xs):b<w:=by
 obtain⟨c,a,_⟩:=h;exact(AL.1 a).1
def UR.keep{w w':jT}{b:Nat}{xs:List ni}(h:UR w b xs)(e:w'.heap[b]?=w.heap[b]?):UR w' b xs:=by
 obtain⟨a,d,c⟩:=h;exact⟨a,e.trans d,c⟩
def UR.cell{w:jT}{b:Nat}{xs:List ni}(h:UR w b xs)(k:Nat)(e:k<xs.length):w.cell? (Δ b k)=jm (gz iV (xs[k].toNat:Int)):=by
 obtain⟨a,d,c⟩:=h;rw[cell_of_row w b k a _ (0,0) d,c k e];rfl
def UR.frozen{w:jT}{b:Nat}{xs:List ni}(h:UR w b xs)(k:Nat):w.frozen? (Δ b k)=false:=by
 obtain⟨c,a,d⟩:=h;simp[Ij,a]
def UR.set{w:jT}{b:Nat}{xs:List ni}(h:UR w b xs)(k:Nat)(x:ni):UR (w.setCell (Δ b k) (wv x)) b (xs.set k x):=by
 obtain⟨e,f,d⟩:=h;refine⟨_,GR _ f,λt c=>?_⟩;rw[Di]at c;rw[Bh,MX];by_cases a:k=t
 ·subst a;have:k<e.size:=(AL.1 (d k c)).1;rw[kX rfl,kX rfl,kX this]
 ·rw[lg a,lg a];exact d t c
def UR.Qn{w:jT}{i b n c:Nat}{xs:List ni}(h:w.ownsRow i 47 1 (fM (jm (Φ b)) n c) n (xs.map wv)):UR w b xs:=by
 obtain⟨k,d⟩:=h;rcases d with⟨d,_⟩|⟨q,p,j,f,r,m,v,s,t,o⟩
 ·cases d
 ·simp only[Value.slice.injEq,Option.some.injEq,Addr.mk.injEq,and_true,true_and]at f;obtain⟨rfl,rfl⟩:=f;refine⟨j,m,λg e=>?_⟩;have u:g<n:=by simpa using(by simpa using k:xs.length=n)▸e
  have a:=congrArg (λl=>l[g]?) o;simp only[Dh,CP,Ag e,EX]at a;rw[kX O]at a;rw[<-Array.getElem?_toList];exact a
structure AQ(F F':Nat->Prop)(w w':jT):Prop where
 touch:Touch F w w'
 own:∀b,F' b->F b\/w<=b
def AQ.refl(F:Nat->Prop)(w:jT):AQ F F w w:=⟨mP,λ_=>.inl⟩
def AQ.of_below{F:Nat->Prop}{w w':jT}(h:η w w'):AQ F F w w':=⟨mD h,λ_=>.inl⟩
def mW{F:Nat->Prop}{w w':Go.World}(h:Below w.heap.size w w'):AQ F F w w':=AQ.of_below h
def AQ.trans{F F' c:Nat->Prop}{w w' d:jT}(h:AQ F F' w w')(k:AQ F' c w' d):AQ F c w d:=
 ⟨h.touch.trans k.touch (λb hb=>h.own b hb),λb hb=>(k.own b hb).elim (λa=>h.own b a) (λa=>.inr (AZ h.touch.size a))⟩
def AQ.below{F F':Nat->Prop}{w w' a:jT}(h:AQ F F' w w')(k:η w' a):AQ F F' w a:=h.trans (mW k)
def AQ.set{F F':Nat->Prop}{w w':jT}(h:AQ F F' w w'){p:Addr}(a:F p.block\/w<=p.block)(u:ku):AQ F F' w (w'.setCell p u):=⟨h.touch.setCell a u,h.own⟩
structure Tabs(w:jT):Prop where
 fours:∀j,j<16->w.cell? (Δ 0 j)=jm (gz .u32 (NU.getD j 0:Nat))
 tV:∀j,j<64->w.cell? (Δ 1 j)=jm (gz .u8 (Lib.deBruijn64tab.getD j 0:Nat))
def Tabs.keep{w w':jT}(h:Tabs w)(h1:w'.heap[0]?=w.heap[0]?)(h2:w'.heap[1]?=w.heap[1]?):Tabs w':=
 ⟨λj a=>(BQ (w:=w) h1).trans (h.fours j a),λj a=>(BQ (w:=w) h2).trans (h.tV j a)⟩
def Tabs.lt{w:jT}(h:Tabs w):0<w.heap.size/\1<w.heap.size:=
 ⟨Hq w _ (h.fours 0 U),Hq w _ (h.tV 0 U)⟩
def Tabs.below{w w':jT}(h:Tabs w)(k:η w w'):Tabs w':=h.keep (k.block _ h.lt.1) (k.block _ h.lt.2)
inductive DJ where
 |up(m:Mode)
 |down(P:(Nat->ni)->Prop)
instance:Coe Mode DJ:=⟨.up⟩
def V5(w:jT)(d L:Nat)(P:(Nat->ni)->Prop)(own:Nat->Prop):Prop:=
 ∃(m:Mode)(ws:Nat->ni)(o7:Nat->Nat),m.lf=0/\Dev w d L ws m o7 own/\(∀a,m a<=1000000)/\(∀a,∀c∈m.bQ a,∃t,t<8/\c.1=8*t)/\∀b:Nat->Nat,(∀a,b a<=m a)->P (xU m b ws)
def Xe(w:jT)(d L:Nat)(ws:Nat->ni)(m:DJ)(own:Nat->Prop):Prop:=match m with
 | .up m=>Dev w d L ws m (λ_=>0) own/\m.lf≠0
 | .down P=>V5 w d L P own
def Xe.rep{w:jT}{d L:Nat}{ws:Nat->ni}{m:DJ}{own:Nat->Prop}(h:Xe w d L ws m own):∃b a o7,Dev w d L b a o7 own:=by
 cases m with
 |up m=>exact⟨_,_,_,h.1⟩
 |down P=>obtain⟨_,_,_,_,h,_⟩:=h;exact⟨_,_,_,h⟩
def Xe.lt{w:jT}{d L:Nat}{ws:Nat->ni}{m:DJ}{own:Nat->Prop}(h:Xe w d L ws m own):∀a,own a->a<w:=by
 obtain⟨_,_,_,h⟩:=h.rep;exact h.lt
def Xe.touch{w w':jT}{d L:Nat}{ws:Nat->ni}{m:DJ}{own F:Nat->Prop}(h:Xe w d L ws m own)(t:Touch F w w')(hF:∀a,own a->¬F a):Xe w' d L ws m own:=by
 cases m with
 |up m=>exact⟨h.1.touch t hF,h.2⟩
 |down P=>obtain⟨m,ws,o7,b,c,e⟩:=h;exact⟨m,ws,o7,b,c.touch t hF,e⟩
def Xe.below{w w':jT}{d L:Nat}{ws:Nat->ni}{m:DJ}{own:Nat->Prop}(h:Xe w d L ws m own)(k:η w w'):Xe w' d L ws m own:=h.touch (mD (F:=λ_=>False) k) (λ_ _=>id)
def Xe.box{w:jT}{d L:Nat}{ws:Nat->ni}{m:DJ}{own:Nat->Prop}(h:Xe w d L ws m own):∃g c e f,Cm w d 70 [fM (jm (Φ g)) L L,c,e,f]:=by
 obtain⟨_,_,_,g,hb,b,_⟩:=h.rep;obtain⟨i,a⟩:=b.box;exact⟨g,_,_,_,a⟩
def Xe.size{w:jT}{d L:Nat}{ws:Nat->ni}{m:DJ}{own:Nat->Prop}(h:Xe w d L ws m own)(b:L<=1024):Calls prog 19 #[AB d] w λa w'=>a=iO (gz iU ((L*64:Nat):Int))/\w=w':=by
 obtain⟨g,_,_,_,c⟩:=h.box;exact UQ d L g _ _ _ w b c
structure Fv(len:DJ)(w:jT)(d p L:Nat)(s:St)(tb hb n cT cH:Nat)(own:Nat->Prop):Prop where
 dev:Xe w d L s.ws len own
 L0:0<L
 L1:L<=1024
 shape:shapeOf L=jm s.sh
 box:Cm w p 183 [AB d,gz iU (s.sh.lines:Nat),gz iU (s.sh.CE:Nat),gz iU (s.sh.table:Nat),gz iU (s.sh.data:Nat),fM (jm (Φ tb)) n cT,fM (jm (Φ hb)) n cH]
 tk:UR w tb s.tk
 hd:UR w hb s.hd
 TL:s.tk.length=n
 nhd:s.hd.length=n
 oJ:n=s.sh.CE
 cT:n<=cT
 cH:n<=cH
 dp:¬own p
 dt:¬own tb
 dh:¬own hb
 pt:p≠tb
 ph:p≠hb
 th:tb≠hb
 tabs:Tabs w
 g1:¬(own 0\/0=p\/0=tb\/0=hb)
 g2:¬(own 1\/1=p\/1=tb\/1=hb)
def Fg(len:DJ)(w:jT)(d p L:Nat)(s:St)(F:Nat->Prop):Prop:=
 ∃tb hb n cT cH own,Fv len w d p L s tb hb n cT cH own/\∀a,F a<->(own a\/a=p\/a=tb\/a=hb)
section
variable{w w':jT}{d p L:Nat}{s:St}{F:Nat->Prop}
def Fg.lt{len:DJ}(h:Fg len w d p L s F):∀a,F a->a<w:=by
 obtain⟨tb,hb,n,cT,cH,own,h,hF⟩:=h;intro a c;rcases(hF a).1 c with b|rfl|rfl|rfl
 ·exact h.dev.lt a b
 ·exact h.box.lt
 ·exact h.tk.lt
 ·exact h.hd.lt
def Fg.tabs{len:DJ}(h:Fg len w d p L s F):Tabs w:=by
 obtain⟨tb,hb,n,cT,cH,own,h,hF⟩:=h;exact h.tabs
def Fg.keep{len:DJ}(h:Fg len w d p L s F){G:Nat->Prop}(t:Touch G w w')(c:∀a,F a->¬G a)(e:¬G 0)(f:¬G 1):Fg len w' d p L s F:=by
 have g:=h.lt;obtain⟨tb,hb,n,cT,cH,own,h,hF⟩:=h;have keep:∀a,F a->w'.heap[a]?=w.heap[a]?:=λa b=>t.block a (g a b) (c a b)
 refine⟨tb,hb,n,cT,cH,own,⟨h.dev.touch t (λa b=>c a ((hF a).2 (.inl b))),h.L0,h.L1,h.shape,(keep p ((hF p).2 (.inr (.inl rfl)))).trans h.box,h.tk.keep (keep tb ((hF tb).2 (.inr (.inr (.inl rfl))))),h.hd.keep (keep hb ((hF hb).2 (.inr (.inr (.inr rfl))))),h.TL,h.nhd,h.oJ,h.cT,h.cH,h.dp,h.dt,h.dh,h.pt,h.ph,h.th,
  h.tabs.keep (t.block _ h.tabs.lt.1 e) (t.block _ h.tabs.lt.2 f),h.g1,h.g2⟩,hF⟩
def Fg.below{len:DJ}(h:Fg len w d p L s F)(k:η w w'):Fg len w' d p L s F:=
 h.keep (mD (F:=λ_=>False) k) (λ_ _=>id) id id
end
def gW(L:Nat):∀a s,QO s<=L\/s=0->QO (LP L a s)<=L\/LP L a s=0
 |0,s,h=>h
 |a+1,s,h=>by
  unfold LP;split
  ·rename_i b;exact gW L a (s+1) (.inl b)
  ·exact h
structure mV(L:Nat)(sh:Sh):Prop where
 CE:0<sh.CE
 lines:sh.lines=L
 table:sh.table=128
 data:sh.data=64*LQ sh.CE
 fits:sh.data+1024*sh.CE<=64*L
 Qo:128+8*sh.CE<=sh.data
def J4{L:Nat}{sh:Sh}(h:shapeOf L=jm sh):mV L sh:=by
 unfold shapeOf at h;split at h
 ·cases h
 ·dsimp only at h
  split at h
  ·cases h
  ·rename_i b a;injection h with h
   have:=(gW L L 0 (.inr rfl)).resolve_right a;subst h;unfold QO LQ at this;refine⟨Nat.pos_of_ne_zero a,rfl,rfl,by simp[KD],?_,?_⟩
   ·show(2+(TE L+7)/8)*64+1024*TE L<=64*L;unfold TE;omega
   ·show 128+8*TE L<=(2+(TE L+7)/8)*64;omega
section
variable{w w':jT}{d p L:Nat}{s:St}{F:Nat->Prop}
def Fv.wrote{m:DJ}{o:Mode}{tb hb n cT cH g:Nat}{own:Nat->Prop}{r:Nat->Option Nat}{ws':Nat->ni}(h:Fv m w d p L s tb hb n cT cH own)(hF:∀a,F a<->(own a\/a=p\/a=tb\/a=hb))(j:∀a,own a<->FZ d L g r a)
 (hd:Dv w d L g r ws' o (λ_=>0) w')(A:o.lf≠0):∃q,Fg o w' d p L {s with ws:=ws'} q/\AQ F q w w':=by
 obtain⟨i,x,z,y⟩:=hd;have f:∀a,a<w.heap.size->¬own a->¬FZ d L g i a:=λa v l b=>(x a b).elim (λc=>l ((j a).2 c)) (λc=>O)
 have e:∀a,a<w.heap.size->¬own a->w'.heap[a]?=w.heap[a]?:=λa v l=>y.block a v (λc=>l ((j a).2 c))
 have t:¬own 0:=λb=>h.g1 (.inl b)
 have u:¬own 1:=λb=>h.g2 (.inl b)
 refine⟨λa=>FZ d L g i a\/a=p\/a=tb\/a=hb,⟨tb,hb,n,cT,cH,FZ d L g i,⟨⟨⟨g,i,z,λ_=>Iff.rfl⟩,A⟩,h.L0,h.L1,h.shape,(e p h.box.lt h.dp).trans h.box,h.tk.keep (e tb h.tk.lt h.dt),h.hd.keep (e hb h.hd.lt h.dh),h.TL,h.nhd,h.oJ,h.cT,h.cH,
  f p h.box.lt h.dp,f tb h.tk.lt h.dt,f hb h.hd.lt h.dh,h.pt,h.ph,h.th,h.tabs.keep (e _ h.tabs.lt.1 t) (e _ h.tabs.lt.2 u),
  λb=>b.elim (f _ h.tabs.lt.1 t) (λc=>h.g1 (.inr c)),λb=>b.elim (f _ h.tabs.lt.2 u) (λc=>h.g2 (.inr c))⟩,λ_=>Iff.rfl⟩,⟨y.mono (λa k=>(hF a).2 (.inl ((j a).2 k))),λa k=>?_⟩⟩
 rcases k with b|b
 ·exact(x a b).imp (λc=>(hF a).2 (.inl ((j a).2 c))) id
 ·exact .inl ((hF a).2 (.inr b))
def Fv.cut{m:DJ}{f:Mode}{o7:Nat->Nat}{P:(Nat->ni)->Prop}{tb hb n cT cH g:Nat}{own:Nat->Prop}{v:Nat->Option Nat}{ws':Nat->ni}(h:Fv m w d p L s tb hb n cT cH own)(hF:∀a,F a<->(own a\/a=p\/a=tb\/a=hb))(o:∀a,own a<->FZ d L g v a)
 (hd:Dv w d L g v ws' f o7 w')(I:f.lf=0)(G:∀i,f i<=1000000)(E:∀i,∀c∈f.bQ i,∃t,t<8/\c.1=8*t)(D:∀C:Nat->Nat,(∀i,C i<=f i)->P (xU f C ws'))(J:Nat->ni):∃u,Fg (.down P) w' d p L {s with ws:=J} u/\AQ F u w w':=by
 obtain⟨l,A,H,B⟩:=hd;have k:∀a,a<w.heap.size->¬own a->¬FZ d L g l a:=λa z r b=>(A a b).elim (λe=>r ((o a).2 e)) (λe=>O)
 have j:∀a,a<w.heap.size->¬own a->w'.heap[a]?=w.heap[a]?:=λa z r=>B.block a z (λe=>r ((o a).2 e))
 have x:¬own 0:=λb=>h.g1 (.inl b)
 have y:¬own 1:=λb=>h.g2 (.inl b)
 refine⟨λa=>FZ d L g l a\/a=p\/a=tb\/a=hb,⟨tb,hb,n,cT,cH,FZ d L g l,⟨⟨f,ws',o7,I,⟨g,l,H,λ_=>Iff.rfl⟩,G,E,D⟩,h.L0,h.L1,h.shape,(j p h.box.lt h.dp).trans h.box,h.tk.keep (j tb h.tk.lt h.dt),h.hd.keep (j hb h.hd.lt h.dh),h.TL,h.nhd,h.oJ,h.cT,h.cH,
  k p h.box.lt h.dp,k tb h.tk.lt h.dt,k hb h.hd.lt h.dh,h.pt,h.ph,h.th,h.tabs.keep (j _ h.tabs.lt.1 x) (j _ h.tabs.lt.2 y),
  λb=>b.elim (k _ h.tabs.lt.1 x) (λe=>h.g1 (.inr e)),λb=>b.elim (k _ h.tabs.lt.2 y) (λe=>h.g2 (.inr e))⟩,λ_=>Iff.rfl⟩,⟨B.mono (λa q=>(hF a).2 (.inl ((o a).2 q))),λa q=>?_⟩⟩
 rcases q with b|b
 ·exact(A a b).imp (λe=>(hF a).2 (.inl ((o a).2 e))) id
 ·exact .inl ((hF a).2 (.inr b))
def tZ{len:Mode}(h:Fg len w d p L s F)(j n:Nat)(e:j+n<=8*L):
 Calls prog 86 #[AB d,gz iU ((8*j:Nat):Int),n] w λb w'=>∃a,b=iO (iJ #[a,gz iU 0])/\
  w'.ownsRow w 47 1 a n ((wordsAt s.ws j n).map wv)/\η w w':=by
 obtain⟨tb,hb,l,cT,cH,own,h,hF⟩:=h;obtain⟨⟨g,c,f,k⟩,i⟩:=h.dev;exact tK d L s.ws _ _ g c j n w h.L0 h.L1 i f e
def yz{ws0 ws:Nat->ni}{i:Nat}(q:Nat):∀{l:List (Nat×ni)},(∀c∈l,c.2=ws0 (8*i+c.1/8))->xR i l ws q=ws q\/xR i l ws q=ws0 q
 |[],_=>.inl rfl
 |c::l,h=>by
  unfold xR;by_cases a:q=8*i+c.1/8
  ·right;rw[kX a,h c (Bf ..),<-a]
  ·rw[lg a];exact yz q (λd b=>h d (Bi _ b))
def Half(ws a ws':Nat->ni):Prop:=∀q,ws' q=ws q\/ws' q=a q
def Ac3{ws a e:Nat->ni}{j n:Nat}{m:Mode}(h:gJ ws j n m)(h1:∀q,a q=ws q\/a q=e q)(d:Nat->Nat):Half ws e (xU m d a):=λq=>by
 unfold xU;rcases yz (ws0:=ws) (ws:=a) (i:=q/8) q (l:=(m.bQ (q/8)).drop (d (q/8))) (λc f=>by
  obtain⟨t,t1,t2,t3,t4,t5⟩:=h (q/8) c (List.mem_of_mem_drop f);rw[t5];congr 1;omega)with b|b
 ·rw[b];exact h1 q
 ·exact .inl b
end
def Dv.dev{w w':jT}{d L g:Nat}{b:Nat->Option Nat}{own:Nat->Prop}{ws':Nat->ni}(e:∀a,own a<->FZ d L g b a)(i:Dv w d L g b ws' M0 (λ_=>0) w'):
 ∃f,Dev w' d L ws' M0 (λ_=>0) f/\Touch own w w'/\∀a,f a->own a\/w<=a:=by
 obtain⟨c,j,k,l⟩:=i;exact⟨FZ d L g c,⟨g,c,k,λ_=>Iff.rfl⟩,l.mono (λa hb=>(e a).2 hb),λa hb=>(j a hb).imp (e a).2 id⟩
def gX{w:jT}{d L:Nat}{ws:Nat->ni}{own:Nat->Prop}(i:0<L)(f:L<=1024)(h:Dev w d L ws M0 (λ_=>0) own)(j n c:Nat)(A:Option Addr)(xs:List ni)(m:j+n<=8*L)(o:0<n)(r:Ws w A n xs):
 Calls prog 22 #[AB d,gz iU ((8*j:Nat):Int),fM A n c] w λb w'=>b=iO (gz iU 0)/\
  ∃e,Dev w' d L (CQ ws j xs) M0 (λ_=>0) e/\Touch own w w'/\∀a,e a->own a\/w<=a:=by
 obtain⟨g,k,q,p⟩:=h;refine(Ac2 d L g k ws j n c A xs w i f q m o r).mono ?_;rintro b w'⟨rfl,l⟩;exact⟨rfl,l.dev p⟩
def Aie{w:jT}{d L:Nat}{ws:Nat->ni}{own:Nat->Prop}(n:0<L)(m:L<=1024)(h:Dev w d L ws M0 (λ_=>0) own):
 Calls prog 21 #[AB d,gz iU 0,L] w λf w'=>f=iO (gz iU 0)/\
  ∃b,Dev w' d L (CQ ws 0 (BJ (8*L) 0)) M0 (λ_=>0) b/\Touch own w w'/\∀a,b a->own a\/w<=a:=by
 obtain⟨A,r,x,y,z⟩:=info_parts Tryz.JL.hi;have t1:decide ((L:Int)<0)=false:=by simp
 have t2:=dF ((1024:Int)<(L:Int));have k:=Ac h;clear h;go_in;go_wp2_with(at_make;rw[show(L:Int)*8=((8*L:Nat):Int)by omega];refine wpList_make_full _ rfl _ _ 76 rfl w 47 A (gz iV 0) 1 underlying76 r x y iU iU _ _ (8*L) rfl rfl rfl rfl (by rw[z];omega) (by unfold maxLen;omega) (Ae _) ?_;intro j i q);have c:η w j:=mZ.grown q (Ae _) Θ;obtain⟨g,o,u,s⟩:=k.out;have l:Dev j d L ws M0 (λ_=>0) own:=⟨g,o,u.below c,s⟩;rw[NT]at i;have e:=gX n m l 0 (8*L) (8*L) (jm (Φ w)) (BJ (8*L) 0) O O (Dk i).2;rw[show((8*0:Nat):Int)=0 from rfl]at e;refine e.mono ?_;rintro f w'⟨rfl,b,p,v,t⟩;go_wp2;go_ret;refine⟨rfl,b,p,(mD c).trans v (λa=>.inl),λa hb=>(t a hb).imp id (λh=>AZ c.size h)⟩
def Amq(n c:Nat)(p:n<18446744073709551616)(r:c<=64):su n c=if ZP 64 (18446744073709551615-n)<c then jm (ZP 64 (18446744073709551615-n))else none:=by
 have l:∀a,a<64->(18446744073709551615-n).testBit a= !n.testBit a:=λa b=>by
  have:=lH (n:=64) (x:=n) p a;rw[show 2^64-(n+1)=18446744073709551615-n by omega]at this;rw[this];simp[b]
 unfold su;by_cases d:18446744073709551615-n=0
 ·have e:ZP 64 (18446744073709551615-n)=64:=by rw[d];rfl
  rw[e,lg O,Rt];intro a b;have o:a<c:=GH.1 b;rw[<-l a O,d];simp
 ·obtain⟨m,i,k⟩:=Lib.ctzFrom_spec 64 (18446744073709551615-n) O O;have e:ZP 64 (18446744073709551615-n)=Lib.ctzFrom 64 (18446744073709551615-n):=by unfold ZP;rw[lg d]
  rw[e];generalize Lib.ctzFrom 64 (18446744073709551615-n)=f at i k;have hb:∀a,a<64->(!n.testBit a)=(decide (f<=a)&&(2*m+1).testBit (a-f)):=λa b=>by
   rw[<-l a b,i,Nat.testBit_two_pow_mul]
  split
  ·rename_i g;rw[List.find?_range_eq_some];refine⟨?_,GH.2 g,λj q=>?_⟩
   ·rw[hb f k,Pv];simp
   ·rw[hb j O];simp;omega
  ·rename_i g;rw[Rt];intro a b;have o:a<c:=GH.1 b;rw[hb a O];simp;omega
def uf{n a k:Nat}(h:su n a=jm k):k<a:=by
 unfold su at h;exact GH.1 (List.mem_of_find?_eq_some h)
def Yf(w:jT):Prop:=∀j,j<64->w.cell? (Δ 1 j)=jm (gz .u8 (Lib.deBruijn64tab.getD j 0:Nat))
def Yf.dr{w w':jT}(h:Yf w)(d:Dr w w'):Yf w':=by obtain⟨q,rfl⟩:=d;exact h
def Aq9(w:jT):Calls prog 251 #[gz iV 0] w λa w'=>a=iO (gz iU 64)/\w=w':=by
 go_in;go_wp2;go_ret;exact⟨rfl,rfl⟩
def Ara(x k a:Nat)(w:jT)(e:((x:Int)==0)=jS)
 (key:IntKind.u64.wrap (bits BinOp.and IntKind.u64 (x:Int) (IntKind.u64.wrap (-(x:Int)))*285870213051353865)/288230376151711744=(a:Int))
 (hi:a<64)(d:k<64)(c:w.cell? (Δ 1 a)=jm (gz .u8 k)):
 Calls prog 251 #[gz iV x] w λb w'=>b=iO k/\w=w':=by
 go_in;go_wp2_with(simp only[key]);go_ret;exact⟨rfl,rfl⟩
def Avb(x:Nat)(e:x<18446744073709551616)(w:jT)(g:Yf w):
 Calls prog 251 #[gz iV x] w λf w'=>f=iO (gz iU (ZP 64 x))/\w=w':=by
 by_cases a:x=0
 ·subst a;exact Aq9 w
 ·obtain⟨i,d⟩:=Lib.lowest_bit 64 x a e;obtain⟨c,j⟩:=Lib.deBruijn64_at _ d;have b:=g _ c;rw[j]at b;exact Ara x _ _ w (by rw[beq_eq_false_iff_ne];omega) (tz64_key x _ e a i) c d b
def not_eq(n:Nat)(b:n<18446744073709551616):bits .xor iV IntKind.u64.max (n:Int)=((18446744073709551615-n:Nat):Int):=by
 rw[show IntKind.u64.max=((18446744073709551615:Nat):Int)from rfl,u64_xor_nat _ _ U b];congr 1;apply Nat.eq_of_testBit_eq;intro a;have c:=lH (n:=64) (x:=n) b a;have d:=Nat.testBit_two_pow_sub_one 64 a;rw[show 2^64-(n+1)=18446744073709551615-n by omega]at c;rw[show 2^64-1=18446744073709551615 by decide]at d;rw[Nat.testBit_xor,c,d];by_cases e:a<64
 ·simp[e]
 ·have:n.testBit a=false:=Nat.testBit_lt_two_pow (Bc b (Nat.pow_le_pow_right (n:=2) U (by omega:64<=a)));simp[e,this]
def ug(o:Option Nat):Int:=match o with
 |some a=>(a:Int)
 |none=> -1
def Arb(n b:Nat)(w:jT)(g:n<18446744073709551616)(k:b<=64)(j:Yf w):
 Calls prog 247 #[gz iV (n:Int),b] w λi w'=>i=iO (gz iU (ug (su n b)))/\Dr w w':=by
 have f:=Dr.refl w;have l:=not_eq n g;have d:=Ac (Avb (18446744073709551615-n) O w j);have a:=Amq n b g k;generalize ZP 64 (18446744073709551615-n)=c at a d;by_cases e:c<b
 ·rw[kX e]at a;rw[a,show ug (jm c)=(c:Int)from rfl];clear a;go_in;go_wp2_with fail;refine d.ro ?_;go_wp2;go_ret;exact⟨rfl,f⟩
 ·rw[lg e]at a;rw[a,show ug jw= -1 from rfl];clear a;go_in;go_wp2_with fail;refine d.ro ?_;go_wp2;go_ret;exact⟨rfl,f⟩
def oK(x c:Nat)(w:jT)(l:x<18446744073709551616)(q:c<1000000):Calls prog 246 #[gz iV (x:Int),c] w λf w'=>f=iO (iw (NV x c))/\Dr w w':=by
 have a:=Dr.refl w;have e:=Ac (λW=>Xb x W l);have g:=Ac (λW=>Ik c W q);cases d:Hw x
 ·rw[show NV x c=jS by simp[NV,d]];rw[d]at e;clear d;go_in;go_wp2_with(refine(e.out _).mono ?_;rintro f w'⟨rfl,b⟩;replace a:=a.trans b);go_ret;exact⟨rfl,a⟩
 ·rw[d]at e;by_cases k:0<BG c
  ·have t1:=dT ((0:Int)<((BG c:Nat):Int));have j:Hid (NV x c=(decide (x=0)||decide (Ew x=c))):=Ac (by
    have o:(x==0)=decide (x=0):=by rw[Bool.eq_iff_iff,beq_iff_eq,decide_eq_true_iff]
    have p:(Ew x==c)=decide (Ew x=c):=by rw[Bool.eq_iff_iff,beq_iff_eq,decide_eq_true_iff]
    rw[NV,d,decide_eq_true k,o,p];rfl)
   generalize BG c=r at*;clear d;by_cases i:x=0
   ·have t0:((x:Int)==0)=true:=by rw[beq_iff_eq];omega
    have m:=Ac i;clear i;go_in;go_wp2_with(first|(refine(e.out _).mono ?_;rintro f w'⟨rfl,b⟩;replace a:=a.trans b)|(refine(g _).ro ?_));rw[j.out,decide_eq_true m.out];go_ret;exact⟨rfl,a⟩
   ·have t0:((x:Int)==0)=false:=ζ O;have n:Hid ((((Ew x:Nat):Int)==(c:Int))=decide (Ew x=c)):=Ac (by rw[Bool.eq_iff_iff,beq_iff_eq,decide_eq_true_iff];omega);go_in;go_wp2_with(first|(refine(e.out _).mono ?_;rintro f w'⟨rfl,b⟩;replace a:=a.trans b)|(refine(g _).ro ?_)|(refine(XY x _ l).mono ?_;rintro f w'⟨rfl,b⟩;replace a:=a.trans b));rw[j.out,decide_eq_false i,n.out];go_ret;exact⟨rfl,a⟩
  ·have t1:=dF ((0:Int)<((BG c:Nat):Int));rw[show NV x c=jS by simp[NV,k]];clear d;go_in;go_wp2_with(first|(refine(e.out _).mono ?_;rintro f w'⟨rfl,b⟩;replace a:=a.trans b)|(refine(g _).ro ?_));go_ret;exact⟨rfl,a⟩
def Zb(x c:Nat)(w:jT)(i:x<18446744073709551616)(g:c<1000000)(k:Yf w):Calls prog 236 #[gz iV (x:Int),c] w λe w'=>e=iO (gz iU (ug (Nl x c)))/\Dr w w':=by
 have a:=Dr.refl w;have l:=Ah3 x;have hb:=Kt c;have f:=Ac (λW=>oK x c W i g);have j:=Ac (λW(h:Yf W)=>Arb (LU x) (BG c) W O O h);cases d:NV x c
 ·rw[show Nl x c=jw by simp[Nl,d],show ug jw= -1 from rfl];rw[d]at f;clear d;go_in;go_wp2_with(refine(f.out _).mono ?_;rintro e w'⟨rfl,b⟩;replace a:=a.trans b);go_ret;exact⟨rfl,a⟩
 ·rw[show Nl x c=su (LU x) (BG c)by simp[Nl,d]];rw[d]at f;clear d;go_in;go_wp2_with(first|(refine(f.out _).mono ?_;rintro e w'⟨rfl,b⟩;replace a:=a.trans b)|(refine(oG x _ i).mono ?_;rintro e w'⟨rfl,b⟩;replace a:=a.trans b)|(refine(Ik c _ g).ro ?_)|(refine(j _ (k.dr a)).mono ?_;rintro e w'⟨rfl,b⟩;replace a:=a.trans b));go_ret;exact⟨rfl,a⟩
def gY(x c a:Nat)(b:x<18446744073709551616)(d:a<=16):(GM x c a).1<18446744073709551616:=by
 unfold GM;split
 ·exact b
 ·exact Sr _ _ _ _ (Sr _ _ _ _ b O) O
def gZ(x a:Nat)(b:x<18446744073709551616)(c:a<=16):(EL x a).1<18446744073709551616:=by
 unfold EL;split
 ·exact b
 ·split
  ·decide
  ·exact Sr _ _ _ _ b O
def take_any(x c a:Nat)(w:jT)(k:x<18446744073709551616)(s:c<4)(r:a<=16):Calls prog 237 #[gz iV (x:Int),c,a] w λe w'=>e=iO (iJ #[gz iV ((GM x c a).1:Nat),iw (GM x c a).2])/\Dr w w':=by
 have b:=Dr.refl w;have g:=Ac (λW=>oK x c W k O);have t0:decide ((a:Int)<0)=false:=by simp
 cases f:NV x c
 ·rw[show GM x c a=(x,jS)by simp[GM,f]];rw[f]at g;clear f;go_in;go_wp2_with fail;refine(g _).mono ?_;rintro e w'⟨rfl,d⟩;replace b:=b.trans d;go_wp2;go_ret2;exact⟨rfl,b⟩
 ·rw[f]at g;by_cases o:BG c<=a
  ·have t1:=dT (((BG c:Nat):Int)<=(a:Int));rw[show GM x c a=(x,jS)by simp[GM,o]];clear f;go_in;go_wp2_with fail;refine(g _).mono ?_;rintro e w'⟨rfl,d⟩;replace b:=b.trans d;go_wp2_with fail;refine(Ik c _ O).ro ?_;go_wp2;go_ret2;exact⟨rfl,b⟩
  ·have t1:=dF (((BG c:Nat):Int)<=(a:Int));have j:=Ac (λW=>UO x a W k O);cases i:Fj x a
   ·rw[i]at j;have p:=Sr x a 1 1 k O;have m:=Ac (λW=>UN x a 1 1 W k U O);have n:=Ac (λW=>UN (Fa x a 1 1) 16 2 c W p O U);have q:IntKind.u64.wrap (c:Int)=(c:Int):=by rw[IntKind.wrap_u64];omega
    have l:Hid (GM x c a=(Fa (Fa x a 1 1) 16 2 c,jO)):=Ac (by simp only[GM,f,i];simp;omega);clear f i;go_in;go_wp2_with fail;refine(g _).mono ?_;rintro e w'⟨rfl,d⟩;replace b:=b.trans d;go_wp2_with fail;refine(Ik c _ O).ro ?_;go_wp2_with fail;refine(j _).mono ?_;rintro e w'⟨rfl,d⟩;replace b:=b.trans d;go_wp2_with fail;refine(m _).mono ?_;rintro e w'⟨rfl,d⟩;replace b:=b.trans d;go_wp2_with fail;refine(n _).mono ?_;rintro e w'⟨rfl,d⟩;replace b:=b.trans d;go_wp2_with fail;rw[l.out];go_ret2;exact⟨rfl,b⟩
   ·rw[i]at j;rw[show GM x c a=(x,jS)by simp[GM,i]];clear f i;go_in;go_wp2_with fail;refine(g _).mono ?_;rintro e w'⟨rfl,d⟩;replace b:=b.trans d;go_wp2_with fail;refine(Ik c _ O).ro ?_;go_wp2_with fail;refine(j _).mono ?_;rintro e w'⟨rfl,d⟩;replace b:=b.trans d;go_wp2;go_ret2;exact⟨rfl,b⟩
def Yg(x a:Nat)(w:jT)(i:x<18446744073709551616)(m:a<=16):Calls prog 150 #[gz iV (x:Int),a] w λd w'=>d=iO (iJ #[gz iV ((EL x a).1:Nat),iw (EL x a).2])/\Dr w w':=by
 have b:=Dr.refl w;have f:=Ac (λW=>UO x a W i O);cases e:Fj x a
 ·rw[e]at f;rw[show EL x a=(x,jS)by simp[EL,e]];clear e;go_in;go_wp2_with(refine(f.out _).mono ?_;rintro d w'⟨rfl,c⟩;replace b:=b.trans c);go_ret2;exact⟨rfl,b⟩
 ·rw[e]at f;have l:=Sr x a 1 0 i O;have k:=Ac (λW=>UN x a 1 0 W i U O);have j:=Ac (λW=>oG (Fa x a 1 0) W l);by_cases g:LU (Fa x a 1 0)=0
  ·have t0:(((LU (Fa x a 1 0):Nat):Int)==0)=true:=by rw[beq_iff_eq];omega
   rw[show EL x a=(0,jO)by simp[EL,e,g]];clear e g;go_in;go_wp2_with(first|(refine(f.out _).mono ?_;rintro d w'⟨rfl,c⟩;replace b:=b.trans c)|(refine(k _).mono ?_;rintro d w'⟨rfl,c⟩;replace b:=b.trans c)|(refine(j _).mono ?_;rintro d w'⟨rfl,c⟩;replace b:=b.trans c));go_ret2;exact⟨rfl,b⟩
  ·have t0:(((LU (Fa x a 1 0):Nat):Int)==0)=false:=ζ O;rw[show EL x a=(Fa x a 1 0,jO)by simp[EL,e,g]];clear e g;go_in;go_wp2_with(first|(refine(f.out _).mono ?_;rintro d w'⟨rfl,c⟩;replace b:=b.trans c)|(refine(k _).mono ?_;rintro d w'⟨rfl,c⟩;replace b:=b.trans c)|(refine(j _).mono ?_;rintro d w'⟨rfl,c⟩;replace b:=b.trans c));go_ret2;exact⟨rfl,b⟩
def A12{w:jT}{g:Nat}{e:TypeId}{a b c d j f i:ku}(h:Cm w g e [a,b,c,d,j,f,i]):
 w.cell? (Φ g)=jm a/\w.cell? (Δ g 1)=jm b/\w.cell? (Δ g 2)=jm c/\w.cell? (Δ g 3)=jm d/\w.cell? (Δ g 4)=jm j/\w.cell? (Δ g 5)=jm f/\w.cell? (Δ g 6)=jm i:=
 ⟨h.cell 0,h.cell 1,h.cell 2,h.cell 3,h.cell 4,h.cell 5,h.cell 6⟩
def Arc{P:Program}{f:FuncId}{args:Array ku}{W:jT}{n:Nat}{v:ku}(h:Calls P f args (W.drewN n) λa w'=>a=iO v/\Dr (W.drewN n) w'):
 Calls P f args (W.drewN n) λa d=>a=iO v/\∃m,d=W.drewN m:=
 h.mono λ_ _⟨b,m,c⟩=>⟨b,n+m,by rw[c,World.drewN_drewN]⟩
def A13{P:Program}{f:FuncId}{args:Array ku}{W:jT}{n:Nat}{v:ku}(h:Calls P f args (W.drewN n) λa w'=>a=iO v/\W.drewN n=w'):
 Calls P f args (W.drewN n) λa d=>a=iO v/\∃m,d=W.drewN m:=
 h.mono λ_ _⟨b,c⟩=>⟨b,n,c.symm⟩
structure JF(w:jT)(d p L:Nat)(s:St)(tb hb n cT cH:Nat):Prop where
 y0:w.cell? (Φ p)=jm (AB d)
 y1:w.cell? (Δ p 1)=jm (gz iU (s.sh.lines:Nat))
 y2:w.cell? (Δ p 2)=jm (gz iU (s.sh.CE:Nat))
 y3:w.cell? (Δ p 3)=jm (gz iU (s.sh.table:Nat))
 y4:w.cell? (Δ p 4)=jm (gz iU (s.sh.data:Nat))
 y5:w.cell? (Δ p 5)=jm (fM (jm (Φ tb)) n cT)
 y6:w.cell? (Δ p 6)=jm (fM (jm (Φ hb)) n cH)
 tk:∀i,i<n->w.cell? (Δ tb i)=jm (gz iV (Iu s i:Nat))
 hd:∀i,i<n->w.cell? (Δ hb i)=jm (gz iV (hdN s i:Nat))
 ok:mV L s.sh
 L1:L<=1024
 oJ:n=s.sh.CE
 TL:s.tk.length=n
def getD_at(xs:List ni)(i:Nat)(h:i<xs.length):xs.getD i 0=xs[i]:=by
 rw[Bv,Ag h];rfl
def Fv.at{len:DJ}{w:jT}{d p L:Nat}{s:St}{tb hb n cT cH:Nat}{own:Nat->Prop}(h:Fv len w d p L s tb hb n cT cH own):JF w d p L s tb hb n cT cH:=by
 obtain⟨e,f,g,i,j,k,l⟩:=A12 h.box;refine⟨e,f,g,i,j,k,l,λb c=>?_,λb c=>?_,J4 h.shape,h.L1,h.oJ,h.TL⟩
 ·have a:b<s.tk.length:=by rw[h.TL];exact c
  rw[h.tk.cell b a,Iu,getD_at _ _ a]
 ·have a:b<s.hd.length:=by rw[h.nhd];exact c
  rw[h.hd.cell b a,hdN,getD_at _ _ a]
def TM(s:St)(i:Nat):Iu s i<18446744073709551616:=bD _
def Og(s:St)(i:Nat):hdN s i<18446744073709551616:=bD _
def Qp(s:St)(i:Nat):Dc s i<18446744073709551616:=Nat.or_lt_two_pow (n:=64) (TM s i) (Og s i)
section
variable{w:jT}{d p L:Nat}{s:St}{tb hb n cT cH:Nat}
def Iy(h:JF w d p L s tb hb n cT cH):Calls prog 143 #[AB p] w λa w'=>a=iO jS/\w=w':=by
 have b:=h.y0;clear h;go_in;go_wp2;go_ret;exact⟨rfl,rfl⟩
def Ac4(h:JF w d p L s tb hb n cT cH)(i:Nat)(hi:i<n):Calls prog 87 #[AB p,i] w λa w'=>a=iO (gz iU ((8*(s.sh.table/8+i):Nat):Int))/\w=w':=by
 have c:=h.y3;have b:=h.ok.table;have g:=h.oJ;have f:=h.ok.fits;have e:=h.L1;rw[b]at c;rw[show 8*(s.sh.table/8+i)=128+8*i by omega];clear h;go_in;go_wp2;go_ret;exact⟨by go_num,rfl⟩
def Oh(h:JF w d p L s tb hb n cT cH)(i:Nat)(hi:i<n):Calls prog 194 #[AB p,i] w λb w'=>b=iO (gz iV (Dc s i:Nat))/\Dr w w':=by
 have f:=h.y5;have g:=h.y6;have c:=h.tk i hi;have e:=h.hd i hi;have a:=Ac (u64_or_nat (Iu s i) (hdN s i) (TM s i) (Og s i));clear h;go_in;go_wp2_with fail;go_quiet(fail);go_wp2_with fail;rw[a.out];go_ret;exact⟨rfl,_,rfl⟩
def Xf(h:JF w d p L s tb hb n cT cH)(i c a:Nat)(hi:i<n)(m:c<4)(k:a<=16):Calls prog 145 #[AB p,i,c,a] w λj w'=>j=iO (gz iU (D7 s.sh i c a:Nat))/\Dr w w':=by
 have A:=h.y4;have t:=h.oJ;have o:=h.ok.fits;have l:=h.L1;have q:=oD c;have r:64*Bq c*a<=256*16:=Nat.mul_le_mul O k;have g:Hid (((D7 s.sh i c a:Nat):Int)=(s.sh.data:Int)+1024*(i:Int)+64*((Bq c:Nat):Int)*(a:Int)):=Ac (by unfold D7;rw[rP,rP,Ib,Ib,Ib];rfl);have b:(64:Int)*((Bq c:Nat):Int)*(a:Int)=((64*Bq c*a:Nat):Int):=by rw[Ib,Ib];rfl
 have f:=Ac (Rw c · O);generalize Bq c=e at*;have u:=wR (1024*(i:Int));have v:=wR ((s.sh.data:Int)+1024*(i:Int));have x:=wR (64*(e:Int));have y:=wR (64*(e:Int)*(a:Int)) (by rw[b];omega);have z:=wR ((s.sh.data:Int)+1024*(i:Int)+64*(e:Int)*(a:Int)) (by rw[b];omega);clear h b;go_in;go_wp2_with fail;go_quiet((go_at_call 192;exact A13 (f _)));go_wp2_with fail;rw[g.out];go_ret;exact⟨rfl,_,rfl⟩
def JF.dr{w':jT}(h:JF w d p L s tb hb n cT cH)(k:Dr w w'):JF w' d p L s tb hb n cT cH:=by
 obtain⟨q,rfl⟩:=k;exact⟨h.y0,h.y1,h.y2,h.y3,h.y4,h.y5,h.y6,h.tk,h.hd,h.ok,h.L1,h.oJ,h.TL⟩
def J5(s:St)(off:Int):Value:=match Jg s off with
 |some (b,a)=>iJ #[b,a,jO]
 |none=>iJ #[gz iU 0,gz iU 0,jS]
def JB(h:JF w d p L s tb hb n cT cH)(off:Int)(Q: -9223372036854775808<=off/\off<=9223372036854775807):Calls prog 149 #[AB p,off] w λi w'=>i=iO (J5 s off)/\Dr w w':=by
 have Z:=h.y4;have aa:=h.y5;have z:=h.oJ;have m:=h.TL;have x:=h.ok.fits;have v:=h.L1;have u:=Ac h;by_cases j:off<(s.sh.data:Int)
 ·have t1:=dT (off<(s.sh.data:Int)) j;have f:Hid (J5 s off=iJ #[gz iU 0,gz iU 0,jS]):=Ac (by rw[J5,Jg,kX (.inl j)]);clear h j z m x v;go_in;go_wp2_with fail;go_quiet(fail);go_wp2;go_ret3;exact⟨by rw[f.out];rfl,_,rfl⟩
 ·have t1:=dF (off<(s.sh.data:Int)) j;have X:=wR (1024*(n:Int));have Y:=wR ((s.sh.data:Int)+1024*(n:Int));by_cases r:(s.sh.data:Int)+1024*(n:Int)<=off
  ·have t2:=dT ((s.sh.data:Int)+1024*(n:Int)<=off) r;have f:Hid (J5 s off=iJ #[gz iU 0,gz iU 0,jS]):=Ac (by rw[J5,Jg,kX (.inr (by rw[m];omega))]);clear h j r z m x v;go_in;go_wp2_with fail;go_quiet(fail);go_wp2;go_ret3;exact⟨by rw[f.out];rfl,_,rfl⟩
  ·have t2:=dF ((s.sh.data:Int)+1024*(n:Int)<=off) r;have g:Hid (Jg s off=if Bq (Bj (Dc s ((off.toNat-s.sh.data)/1024)))=0\/(off.toNat-s.sh.data)%1024%(64*Bq (Bj (Dc s ((off.toNat-s.sh.data)/1024))))≠0 then jw else
    jm ((off.toNat-s.sh.data)/1024,(off.toNat-s.sh.data)%1024/(64*Bq (Bj (Dc s ((off.toNat-s.sh.data)/1024)))))):=Ac (by rw[Jg,lg (by rw[m];omega)])
   obtain⟨o,A,E⟩:∃o:Nat,off.toNat-s.sh.data=o/\off=(s.sh.data:Int)+(o:Int):=⟨off.toNat-s.sh.data,rfl,O⟩;rw[A]at g;have I:IntKind.i64.wrap (off-(s.sh.data:Int))=(o:Int):=by rw[IntWalk.i64_in _ O];omega
   have J:(o:Int).tdiv 1024=((o/1024:Nat):Int):=by rw[Lr O];omega
   have K:(o:Int).tmod 1024=((o%1024:Nat):Int):=by rw[Int.tmod_eq_emod_of_nonneg O];omega
   have y:o/1024<n:=O;have S:o%1024<1024:=Nat.mod_lt _ U;generalize o/1024=a at*;generalize o%1024=b at*;have M:IntKind.i64.wrap (a:Int)=(a:Int):=IntWalk.i64_in _ O;have N:IntKind.i64.wrap (b:Int)=(b:Int):=IntWalk.i64_in _ O;have P:=PS (Dc s a);have F:=oD (Bj (Dc s a));clear h j r A E z m x v;by_cases q:Bq (Bj (Dc s a))=0
   ·have f:Hid (J5 s off=iJ #[gz iU 0,gz iU 0,jS]):=Ac (by rw[J5,g.out,kX (.inl q)]);have k:=Ac (Rw (Bj (Dc s a)) · O);rw[q]at k;clear q F g;go_in;go_wp2_with fail;go_quiet(fail);go_wp2_with fail;go_quiet(fail);go_wp2_with(first|(refine(Oh (u.out.dr (Dr.one w _)) a y).mono ?_;rintro i C⟨rfl,c⟩;replace c:=(Dr.one w _).trans c)|(refine(IL (Dc s a) _ (Qp s a)).mono ?_;rintro i D⟨rfl,e⟩;replace e:=c.trans e)|(refine(k _).ro ?_));go_ret3;exact⟨by rw[f.out];rfl,e⟩
   ·have k:=Ac (Rw (Bj (Dc s a)) · O);have T:((64:Int)*((Bq (Bj (Dc s a)):Nat):Int)==0)=false:=ζ O;have t:(b:Int)%(64*((Bq (Bj (Dc s a)):Nat):Int))=((b%(64*Bq (Bj (Dc s a))):Nat):Int):=by rw[A4z,Ib];rfl
    by_cases l:b%(64*Bq (Bj (Dc s a)))=0
    ·have f:Hid (J5 s off=iJ #[a,gz iU ((b/(64*Bq (Bj (Dc s a))):Nat):Int),jO]):=Ac (by rw[J5,g.out,lg (by rintro(h|h);exact q h;exact h l)]);have H:((b:Int)%(64*((Bq (Bj (Dc s a)):Nat):Int))!=0)=false:=by rw[t,l];rfl
     have V:(b:Int).tdiv (64*((Bq (Bj (Dc s a)):Nat):Int))=((b/(64*Bq (Bj (Dc s a))):Nat):Int):=by rw[Lr O,Int.natCast_ediv,Ib];rfl
     have R:b/(64*Bq (Bj (Dc s a)))<=b:=Nat.div_le_self _ _;generalize b/(64*Bq (Bj (Dc s a)))=B at*;have W:IntKind.i64.wrap (B:Int)=(B:Int):=IntWalk.i64_in _ O;generalize Bq (Bj (Dc s a))=G at*;clear t g l;go_in;go_wp2_with fail;go_quiet(fail);go_wp2_with fail;go_quiet(fail);go_wp2_with(first|(refine(Oh (u.out.dr (Dr.one w _)) a y).mono ?_;rintro i C⟨rfl,c⟩;replace c:=(Dr.one w _).trans c)|(refine(IL (Dc s a) _ (Qp s a)).mono ?_;rintro i D⟨rfl,e⟩;replace e:=c.trans e)|(refine(k _).ro ?_));go_quiet(fail);go_wp2;go_ret3;exact⟨by rw[f.out];rfl,e.trans (Dr.one _ _)⟩
    ·have f:Hid (J5 s off=iJ #[gz iU 0,gz iU 0,jS]):=Ac (by rw[J5,g.out,kX (.inr l)]);have H:((b:Int)%(64*((Bq (Bj (Dc s a)):Nat):Int))!=0)=true:=by rw[t,bne_iff_ne];omega
     generalize Bq (Bj (Dc s a))=G at*;clear t g l;go_in;go_wp2_with fail;go_quiet(fail);go_wp2_with fail;go_quiet(fail);go_wp2_with(first|(refine(Oh (u.out.dr (Dr.one w _)) a y).mono ?_;rintro i C⟨rfl,c⟩;replace c:=(Dr.one w _).trans c)|(refine(IL (Dc s a) _ (Qp s a)).mono ?_;rintro i D⟨rfl,e⟩;replace e:=c.trans e)|(refine(k _).ro ?_));go_ret3;exact⟨by rw[f.out];rfl,e⟩
end
inductive Pw where
 |up(lf:Int)
 |down(P:(Nat->ni)->Prop)
def Pw.mode:Pw->DJ
 | .up lf=>.up (MU lf)
 | .down P=>.down P
structure Ms where
 pw:Pw
 s:St
def KG(q:Ms)(N:Nat)(a:Nat->ni):Ms×Int:=
 match q.pw with
 | .up lf=>if lf<0\/(N:Int)<=lf then(⟨if lK lf N=0 then .down (·=a)else .up (lK lf N),{q.s with ws:=a}⟩,0)else(⟨.down (Half q.s.ws a),{q.s with ws:=a}⟩,12)
 | .down P=>(⟨.down P,{q.s with ws:=a}⟩,12)
abbrev LY(w:jT)(d p L:Nat)(q:Ms)(F:Nat->Prop):Prop:=Fg q.pw.mode w d p L q.s F
def Ayx(q:Ms)(N:Nat)(a:Nat->ni):(KG q N a).1.s={q.s with ws:=a}:=by
 unfold KG;cases q.pw with
 |up lf=>simp only;split<;>rfl
 |down P=>rfl
def Amr(q:Ms)(N:Nat)(a:Nat->ni):(KG q N a).2=0\/(KG q N a).2=12:=by
 unfold KG;cases q.pw with
 |up lf=>simp only;split<;>simp
 |down P=>exact .inr rfl
def QU(s:St)(N:Nat)(a:Nat->ni):KG ⟨.up (-1),s⟩ N a=(⟨.up (-1),{s with ws:=a}⟩,0):=by
 unfold KG;simp only;rw[kX (.inl U),Aq7,lg U]
section
variable{w w':jT}{d p L:Nat}{s:St}{F:Nat->Prop}{q:Ms}
def Fg.Ams{P:(Nat->ni)->Prop}(h:Fg (.down P) w d p L s F)(a:Nat->ni):Fg (.down P) w d p L {s with ws:=a} F:=by
 obtain⟨tb,hb,n,cT,cH,own,h,hF⟩:=h;exact⟨tb,hb,n,cT,cH,own,⟨h.dev,h.L0,h.L1,h.shape,h.box,h.tk,h.hd,h.TL,h.nhd,h.oJ,h.cT,h.cH,h.dp,h.dt,h.dh,h.pt,h.ph,h.th,h.tabs,h.g1,h.g2⟩,hF⟩
def V5.blk{P:(Nat->ni)->Prop}{own:Nat->Prop}(h:V5 w d L P own):∃g e f,Cm w d 70 [fM (jm (Φ g)) L L,jO,e,f]:=by
 obtain⟨m,ws,o7,b,⟨g,hb,c,_⟩,_⟩:=h;obtain⟨i,a⟩:=c.box;rw[decide_eq_true b]at a;exact⟨g,_,_,a⟩
def Fv.Ayy{lf:Int}{N:Nat}{tb hb n cT cH g:Nat}{own:Nat->Prop}{x:Nat->Option Nat}{j:Nat}{xs:List ni}{c:Int}(h:Fv (.up (MU lf)) w d p L s tb hb n cT cH own)(hF:∀b,F b<->(own b\/b=p\/b=tb\/b=hb))(o:∀b,own b<->FZ d L g x b)
 (hd:Wrote lf N w d L g x s.ws j xs c w'):c=(KG ⟨.up lf,s⟩ N (CQ s.ws j xs)).2/\∃a,LY w' d p L (KG ⟨.up lf,s⟩ N (CQ s.ws j xs)).1 a/\AQ F a w w':=by
 have E:=h.dev.2;change lf≠0 at E;rcases hd with⟨l,u,m⟩|⟨l,u,m,len,H,o7,z,A,v,B,C⟩
 ·have k:KG ⟨.up lf,s⟩ N (CQ s.ws j xs)=(⟨if lK lf N=0 then .down (λr=>r=CQ s.ws j xs)else .up (lK lf N),{s with ws:=CQ s.ws j xs}⟩,0):=by
   unfold KG;simp only;rw[kX u]
  rw[k];refine⟨l,?_⟩;by_cases i:lK lf N=0
  ·obtain⟨a,f,e⟩:=h.cut (P:=λr=>r=CQ s.ws j xs) hF o m i (λ_=>Bd _) (λ_ _ h=>nomatch h) (λy _=>by funext q;unfold xU;rw[show((MU (lK lf N)).bQ (q/8))=[]from rfl,List.drop_nil];rfl) (CQ s.ws j xs);refine⟨a,?_,e⟩;unfold LY;simp only[kX i];exact f
  ·obtain⟨a,f,e⟩:=h.wrote hF o m i;refine⟨a,?_,e⟩;unfold LY;simp only[lg i];exact f
 ·have k:KG ⟨.up lf,s⟩ N (CQ s.ws j xs)=(⟨.down (Half s.ws (CQ s.ws j xs)),{s with ws:=CQ s.ws j xs}⟩,12):=by
   unfold KG;simp only;rw[lg O]
  rw[k];obtain⟨a,f,e⟩:=h.cut (P:=Half s.ws (CQ s.ws j xs)) hF o C z A (λG c D=>by
   obtain⟨t,t1,t2,_⟩:=v G c D;exact⟨t,t1,t2⟩) (λy _=>Ac3 v B y) (CQ s.ws j xs)
  exact⟨l,a,f,e⟩
def Sv(h:LY w d p L q F)(j:Nat)(x:ni)(k:j<8*L):
 Calls prog 169 #[AB d,gz iU ((8*j:Nat):Int),x] w λa w'=>a=iO (gz iU (KG q 3 (DD q.s.ws j x)).2)/\
  ∃b,LY w' d p L (KG q 3 (DD q.s.ws j x)).1 b/\AQ F b w w':=by
 obtain⟨r,s⟩:=q;have o:=h;obtain⟨tb,hb,n,cT,cH,own,h,hF⟩:=h;cases r with
 |up lf=>
  obtain⟨⟨g,f,m,l⟩,v⟩:=h.dev;refine(Amm lf d L g f s.ws j x w h.L0 h.L1 m k).mono ?_;rintro a w'⟨c,rfl,i⟩;have:=h.Ayy hF l i;rw[Aia]at this;exact⟨by rw[this.1],this.2⟩
 |down P=>
  obtain⟨g,t,u,e⟩:=V5.blk h.dev;refine(Amn d L g j x t u own w h.L0 h.L1 e).mono ?_;rintro a w'⟨rfl,hb⟩;exact⟨rfl,F,Fg.Ams (Fg.below o hb) _,mW hb⟩
def ay(h:LY w d p L q F)(j n c:Nat)(A:Option Addr)(xs:List ni)(e:j+n<=8*L)(f:0<n)(i:Ws w A n xs):
 Calls prog 22 #[AB d,gz iU ((8*j:Nat):Int),fM A n c] w λa w'=>a=iO (gz iU (KG q (n+((j+n-1)/8-j/8+1)+1) (CQ q.s.ws j xs)).2)/\
  ∃b,LY w' d p L (KG q (n+((j+n-1)/8-j/8+1)+1) (CQ q.s.ws j xs)).1 b/\AQ F b w w':=by
 obtain⟨u,s⟩:=q;have t:=h;obtain⟨tb,hb,z,cT,cH,own,h,hF⟩:=h;cases u with
 |up lf=>
  obtain⟨⟨g,l,r,o⟩,y⟩:=h.dev;refine(ax lf d L g l s.ws j n c A xs w h.L0 h.L1 r e f i).mono ?_;rintro a w'⟨c,rfl,m⟩;have:=h.Ayy hF o m;exact⟨by rw[this.1],this.2⟩
 |down P=>
  obtain⟨g,v,x,k⟩:=V5.blk h.dev;refine(yu d L g j n c A xs v x w h.L0 h.L1 k e f i).mono ?_;rintro a w'⟨rfl,hb⟩;exact⟨rfl,F,Fg.Ams (Fg.below t hb) _,mW hb⟩
end
def NP(q:Ms)(i:Nat)(x:ni):Ms×Int:=
 match KG q 3 (DD q.s.ws (q.s.sh.table/8+i) x)with
 |(b,a)=>if a=0 then(⟨b.pw,YU q.s i x⟩,0)else(b,a)
def J6(q:Ms)(off:Int):Ms×Int:=
 match Jg q.s off with
 |none=>(q,7)
 |some (a,b)=>if Fj (hdN q.s a) b then
  match NP q a (Az (GM (Iu q.s a) (Bj (hdN q.s a)) b).1)with
  |(c,d)=>if d=0 then(⟨c.pw,{c.s with hd:=q.s.hd.set a (Az (EL (hdN q.s a) b).1)}⟩,0)else(c,d)
  else(q,7)
def DT(q:Ms)(off:Int):Ms×Int:=
 match Jg q.s off with
 |none=>(q,7)
 |some (a,b)=>
  if(EL (hdN q.s a) b).2 then(⟨q.pw,{q.s with hd:=q.s.hd.set a (Az (EL (hdN q.s a) b).1)}⟩,0)
  else if(EL (Iu q.s a) b).2 then NP q a (Az (EL (Iu q.s a) b).1)
  else(q,7)
def oL(s:St)(i:Nat)(x:ni):NP ⟨.up (-1),s⟩ i x=(⟨.up (-1),YU s i x⟩,0):=by
 unfold NP;rw[QU];rfl
def Amt{q r:Ms}{i:Nat}{x:ni}(h:NP q i x=(r,0)):r.s=YU q.s i x:=by
 unfold NP at h;split at h;split at h
 ·injection h with h _;rw[<-h]
 ·rename_i a;injection h with _ h;exact absurd h a
def oM(s:St)(off:Int):J6 ⟨.up (-1),s⟩ off=(⟨.up (-1),(Np s off).1⟩,(Np s off).2):=by
 unfold J6 Np;cases Jg s off with
 |none=>rfl
 |some c=>
  obtain⟨b,a⟩:=c;simp only[oL];cases Fj (hdN s b) a<;>rfl
def PU(s:St)(off:Int):DT ⟨.up (-1),s⟩ off=(⟨.up (-1),(GG s off).1⟩,(GG s off).2):=by
 unfold DT GG;cases Jg s off with
 |none=>rfl
 |some c=>
  obtain⟨b,a⟩:=c;simp only[oL];cases(EL (hdN s b) a).2
  ·cases(EL (Iu s b) a).2<;>rfl
  ·rfl
def Qq{s:St}{off:Int}{i a:Nat}(h:Jg s off=jm (i,a)):i<s.tk.length/\a<16/\off=((D7 s.sh i (Bj (Dc s i)) a:Nat):Int)/\1<=Bq (Bj (Dc s i))/\Bq (Bj (Dc s i))*a+Bq (Bj (Dc s i))<=16:=by
 unfold Jg at h;split at h
 ·cases h
 ·rename_i l;obtain⟨o,k⟩:∃o,off.toNat-s.sh.data=o:=⟨_,rfl⟩;rw[k]at h;have m:off=((s.sh.data+o:Nat):Int):=O;split at h
  ·cases h
  ·rename_i c;injection h with h
   injection h with g d
   rw[g]at c d;have e:Bq (Bj (Dc s i))≠0:=λb=>c (.inl b)
   have f:o%1024%(64*Bq (Bj (Dc s i)))=0:=Classical.byContradiction λb=>c (.inr b)
   have j:Bq (Bj (Dc s i))=1\/Bq (Bj (Dc s i))=4:=by
    unfold Bq at e⊢;split at e<;>simp_all
   unfold D7;rcases j with b|b
   ·rw[b]at f d⊢;refine⟨O,O,O,O,O⟩
   ·rw[b]at f d⊢;refine⟨O,O,O,O,O⟩
section
variable{w:jT}{d p L:Nat}{s:St}{tb hb n cT cH:Nat}{own:Nat->Prop}
def ik(h:JF w d p L s tb hb n cT cH)(off:Int)(v: -9223372036854775808<=off/\off<=9223372036854775807):Calls prog 134 #[AB p,off] w λg w'=>g=iO (gz iU (Ed s off:Nat))/\Dr w w':=by
 have e:=Ac h;cases f:Jg s off with
 |none=>
  have j:Hid (Ed s off=0):=Ac (by rw[Ed,f]);have m:Hid (J5 s off=iJ #[gz iU 0,gz iU 0,jS]):=Ac (by rw[J5,f]);clear h f;go_in;go_wp2_with(first|(refine(Iy e).ro ?_)|(refine(JB e off v).mono ?_;rintro g x⟨rfl,c⟩;rw[m.out]));go_ret;exact⟨by rw[j.out];rfl,c⟩
 |some A=>
  obtain⟨b,q⟩:=A;obtain⟨t,C,-⟩:=Qq f;rw[h.TL]at t;have m:Hid (J5 s off=iJ #[b,q,jO]):=Ac (by rw[J5,f]);have o:=Ac (UO (Iu s b) q · (TM s b) O);have y:=Ac (IL (Iu s b) · (TM s b));have i:Ed s off=if Fj (Iu s b) q then Bj (Iu s b)else 0:=by rw[Ed,f]
  cases r:Fj (Iu s b) q
  ·rw[r]at i o;have j:=Ac i;clear h f i r;go_in;go_wp2_with(first|(refine(Iy e).ro ?_)|(refine(JB e off v).mono ?_;rintro g x⟨rfl,c⟩;rw[m.out];have a:=e.out.dr c;have l:=a.y5;have k:=a.tk b t;clear a)|(refine(o _).mono ?_;rintro g B⟨rfl,u⟩;clear l k));go_ret;exact⟨by rw[j.out];rfl,c.trans u⟩
  ·rw[r]at i o;have j:=Ac i;clear h f i r;go_in;go_wp2_with(first|(refine(Iy e).ro ?_)|(refine(JB e off v).mono ?_;rintro g x⟨rfl,c⟩;rw[m.out];have a:=e.out.dr c;have l:=a.y5;have k:=a.tk b t;clear a)|(refine(o _).mono ?_;rintro g B⟨rfl,u⟩;clear l k;replace c:=c.trans u;have a:=e.out.dr c;have l:=a.y5;have k:=a.tk b t;clear a)|(refine(y _).mono ?_;rintro g D⟨rfl,z⟩;clear l k));go_ret;exact⟨by rw[j.out];rfl,c.trans z⟩
def Tabs.set{w:jT}(h:Tabs w){b:Nat}(h1:b≠0)(h2:b≠1)(k:Nat)(u:ku):Tabs (w.setCell (Δ b k) u):=
 h.keep (Below.heap_setCell w (Δ b k) u _ (λa=>h1 a.symm)) (Below.heap_setCell w (Δ b k) u _ (λa=>h2 a.symm))
def Fv.Ayz{len:DJ}(h:Fv len w d p L s tb hb n cT cH own)(i:Nat)(x:ni):Fv len (w.setCell (Δ tb i) (wv x)) d p L {s with tk:=s.tk.set i x} tb hb n cT cH own:=by
 have e:∀b,b≠tb->(w.setCell (Δ tb i) (wv x)).heap[b]?=w.heap[b]?:=λb c=>Below.heap_setCell w (Δ tb i) _ b c
 exact⟨h.dev.touch ((Touch.refl (·=tb) w).setCell (p:=Δ tb i) (.inl rfl) _) (λb c a=>h.dt (a▸c)),h.L0,h.L1,h.shape,(e p h.pt).trans h.box,h.tk.set i x,h.hd.keep (e hb (λa=>h.th a.symm)),
  by rw[Di];exact h.TL,h.nhd,h.oJ,h.cT,h.cH,h.dp,h.dt,h.dh,h.pt,h.ph,h.th,h.tabs.set (λa=>h.g1 (.inr (.inr (.inl a.symm)))) (λa=>h.g2 (.inr (.inr (.inl a.symm)))) _ _,h.g1,h.g2⟩
def Fv.Amu{len:DJ}(h:Fv len w d p L s tb hb n cT cH own)(i:Nat)(x:ni):Fv len (w.setCell (Δ hb i) (wv x)) d p L {s with hd:=s.hd.set i x} tb hb n cT cH own:=by
 have e:∀a,a≠hb->(w.setCell (Δ hb i) (wv x)).heap[a]?=w.heap[a]?:=λa c=>Below.heap_setCell w (Δ hb i) _ a c
 exact⟨h.dev.touch ((Touch.refl (·=hb) w).setCell (p:=Δ hb i) (.inl rfl) _) (λa c b=>h.dh (b▸c)),h.L0,h.L1,h.shape,(e p h.ph).trans h.box,h.tk.keep (e tb h.th),h.hd.set i x,
  h.TL,by rw[Di];exact h.nhd,h.oJ,h.cT,h.cH,h.dp,h.dt,h.dh,h.pt,h.ph,h.th,h.tabs.set (λb=>h.g1 (.inr (.inr (.inr b.symm)))) (λb=>h.g2 (.inr (.inr (.inr b.symm)))) _ _,h.g1,h.g2⟩
def Dr.drew(w:jT):Dr w w.drew:=⟨1,rfl⟩
def mX(w:Go.World){n:Nat}:Below n w w.drew:=(Dr.drew w).below n
def Fg.dr{len:DJ}{F:Nat->Prop}{w':jT}(h:Fg len w d p L s F)(k:Dr w w'):Fg len w' d p L s F:=h.below (k.below _)
def AQ.dr{F F':Nat->Prop}{w w' a:jT}(h:AQ F F' w w')(k:Dr w' a):AQ F F' w a:=h.below (k.below _)
def uh(x:Nat)(a:x<18446744073709551616):wv (Az x)=gz iV (x:Int):=by
 simp only[wv,IX];rw[Ho a]
def oN{F:Nat->Prop}{q:Ms}(h:LY w d p L q F)(i x:Nat)(hi:i<q.s.tk.length)(E:x<18446744073709551616):
 Calls prog 151 #[AB p,i,gz iV (x:Int)] w λo w'=>o=iO (gz iU (NP q i (Az x)).2)/\∃v,LY w' d p L (NP q i (Az x)).1 v/\AQ F v w w':=by
 have J:=Ac h;obtain⟨tb,hb,n,cT,cH,own,D,hF⟩:=h;have a:=D.at;have R:i<n:=by rw[<-a.TL];exact hi
 have T:=a.y0;have z:=Ac (λW(r:Dr w W)=>Ac4 (a.dr r) i R);have C:q.s.sh.table/8+i<8*L:=by
  have:=a.ok.table;have:=a.ok.fits;have:=a.ok.Qo;have:=a.oJ;omega
 have e:=λW(r:Dr w W)=>Sv (J.dr r) (q.s.sh.table/8+i) (Az x) C
 rw[show((Az x).toNat:Int)=(x:Int)by rw[IX,Ho E]]at e;have k:=Ayx q 3 (DD q.s.ws (q.s.sh.table/8+i) (Az x));obtain⟨⟨l,c⟩,t⟩:∃l,KG q 3 (DD q.s.ws (q.s.sh.table/8+i) (Az x))=l:=⟨_,rfl⟩;have f:Hid (NP q i (Az x)=if c=0 then(⟨l.pw,YU q.s i (Az x)⟩,0)else(l,c)):=Ac (by unfold NP;rw[t]);rw[t]at e k;simp only at k;have e:=Ac e;have G:=Ac k;clear a D hF C t k;go_in;go_wp2_with fail;go_region_with(first
  |(go_at_call 87;go_loud(refine(z _ (Dr.drew _)).mono ?_;rintro o w'⟨rfl,rfl⟩))
  |(go_at_call 169;go_loud(refine(e.out _ (Dr.drew _)).mono ?_;rintro o V⟨rfl,y,u,b⟩)))
 all_goals(replace b:=(mW (mX w)).trans b)
 all_goals(clear T z e;by_cases g:c=0)
 all_goals first
  |(subst g
    rw[kX rfl]at f;obtain⟨m,Q,H,P,O,I,j,B⟩:=u;have a:=j.at;have S:i<H:=by rw[<-a.TL,G.out];exact hi
    have X:=a.y5;have U:=a.tk i S;have f1:=j.tk.frozen i;have A:=Ac (j.Ayz i (Az x));rw[uh x E,G.out]at A;have K:=Ac (b.set (p:=Δ m i) (b.own m ((B m).2 (.inr (.inr (.inl rfl))))) (gz iV (x:Int)));clear a j b;go_wp2;go_ret;rw[f.out];exact⟨rfl,y,⟨m,Q,H,P,O,I,A,B⟩,K⟩)
  |(rw[lg g]at f
    have t9:(c==0)=false:=ζ g;have N:=Ac u;have M:=Ac b;clear u b g;go_wp2;go_ret;rw[f.out];exact⟨rfl,y,N,M⟩)
end
section
variable{w:jT}{d p L:Nat}{s:St}{tb hb n cT cH:Nat}{own:Nat->Prop}{F:Nat->Prop}
def Fv.dr{len:DJ}{w':jT}(h:Fv len w d p L s tb hb n cT cH own)(k:Dr w w'):Fv len w' d p L s tb hb n cT cH own:=by
 obtain⟨q,rfl⟩:=k;exact⟨h.dev.below ((Dr.one w q).below _),h.L0,h.L1,h.shape,h.box,h.tk,h.hd,h.TL,h.nhd,h.oJ,h.cT,h.cH,h.dp,h.dt,h.dh,h.pt,h.ph,h.th,h.tabs.below ((Dr.one w q).below _),h.g1,h.g2⟩
def Fv.held{m:DJ}(h:Fv m w d p L s tb hb n cT cH own)(hF:∀a,F a<->(own a\/a=p\/a=tb\/a=hb))(i x:Nat)(c:x<18446744073709551616){W:jT}(k:Dr w W):
 Fg m (W.setCell (Δ hb i) (gz iV (x:Int))) d p L {s with hd:=s.hd.set i (Az x)} F/\AQ F F w (W.setCell (Δ hb i) (gz iV (x:Int))):=by
 have b:=(h.dr k).Amu i (Az x);rw[uh x c]at b;exact⟨⟨tb,hb,n,cT,cH,own,b,hF⟩,((AQ.refl F w).dr k).set (p:=Δ hb i) (.inl ((hF hb).2 (.inr (.inr (.inr rfl))))) _⟩
def iq{q:Ms}(h:LY w d p L q F)(off:Int)(J: -9223372036854775808<=off/\off<=9223372036854775807):
 Calls prog 219 #[AB p,off] w λf w'=>f=iO (gz iU (J6 q off).2)/\∃S,LY w' d p L (J6 q off).1 S/\AQ F S w w':=by
 obtain⟨m,s⟩:=q;have M:=h;obtain⟨tb,hb,n,cT,cH,own,Z,hF⟩:=h;have i:=Ac Z.at;have ar:=Z.TL;cases r:Jg s off with
 |none=>
  have j:Hid (J6 ⟨m,s⟩ off=(⟨m,s⟩,7)):=Ac (by rw[J6,r]);have v:Hid (J5 s off=iJ #[gz iU 0,gz iU 0,jS]):=Ac (by rw[J5,r]);have H:=Ac M;go_in;go_wp2_with(first|(refine(Iy i).ro ?_)|(refine(JB i off J).mono ?_;rintro f ae⟨rfl,e⟩;rw[v.out]));go_ret;rw[j.out];exact⟨rfl,F,H.dr e,(AQ.refl _ _).dr e⟩
 |some aw=>
  obtain⟨a,k⟩:=aw;obtain⟨l,a1,-⟩:=Qq r;have X:=l;rw[ar]at l;have v:Hid (J5 s off=iJ #[a,k,jO]):=Ac (by rw[J5,r]);have H:=Ac M;have x:=Ac (UO (hdN s a) k · (Og s a) O);cases C:Fj (hdN s a) k
  ·rw[C]at x;have j:Hid (J6 ⟨m,s⟩ off=(⟨m,s⟩,7)):=Ac (by rw[J6,r];simp[C]);go_in;go_wp2_with(first|(refine(Iy i).ro ?_)|(refine(JB i off J).mono ?_;rintro f ae⟨rfl,e⟩;rw[v.out];have b:=i.out.dr e;have D:=b.y5;have E:=b.y6;have z:=b.tk a l;have A:=b.hd a l;clear b)|(refine(x _).mono ?_;rintro f w'⟨rfl,t⟩;replace e:=e.trans t;clear D E z A t));go_ret;rw[j.out];exact⟨rfl,F,H.dr e,(AQ.refl _ _).dr e⟩
  ·rw[C]at x;obtain⟨o,N⟩:∃o,(GM (Iu s a) (Bj (hdN s a)) k).1=o:=⟨_,rfl⟩;obtain⟨u,P⟩:∃u,(EL (hdN s a) k).1=u:=⟨_,rfl⟩;have au:o<18446744073709551616:=by rw[<-N];exact gY _ _ _ (TM s a) O
   have av:u<18446744073709551616:=by rw[<-P];exact gZ _ _ (Og s a) O
   have Y:=λ(g:Ms)(h:NP ⟨m,s⟩ a (Az o)=(g,0))=>Amt h
   obtain⟨⟨g,c⟩,aa⟩:∃g,NP ⟨m,s⟩ a (Az o)=g:=⟨_,rfl⟩;have j:Hid (J6 ⟨m,s⟩ off=if c=0 then(⟨g.pw,{g.s with hd:=s.hd.set a (Az u)}⟩,0)else(g,c)):=Ac (by rw[J6,r];simp[C,N,P,aa]);obtain⟨al,V,G⟩:=l9 (IL (hdN s a) · (Og s a)) (take_any (Iu s a) (Bj (hdN s a)) k · (TM s a) (PS _) O) (Yg (hdN s a) k · (Og s a) O);rw[N]at V;rw[P]at G;have y:=λW(Q:Dr w W)=>oN (q:=⟨m,s⟩) (M.dr Q) a o X au
   rw[aa]at y Y;have y:=Ac y;have aD:Hid (c=0->g.s=YU s a (Az o)):=Ac (λf=>Y g (by rw[f]));generalize(GM (Iu s a) (Bj (hdN s a)) k).2=aL at*;generalize(EL (hdN s a) k).2=aM at*;go_in;go_wp2_with(first|(refine(Iy i).ro ?_)|(refine(JB i off J).mono ?_;rintro f ae⟨rfl,e⟩;rw[v.out];have b:=i.out.dr e;have D:=b.y5;have E:=b.y6;have z:=b.tk a l;have A:=b.hd a l;clear b)|(refine(x _).mono ?_;rintro f w'⟨rfl,t⟩;replace e:=e.trans t;clear D E z A t;have b:=i.out.dr e;have D:=b.y5;have E:=b.y6;have z:=b.tk a l;have A:=b.hd a l;clear b));go_quiet(first
    |(go_at_call 146;exact Arc (al _))
    |(go_at_call 237;exact Arc (V _)))
   replace e:=e.trans (Dr.one _ nq);go_wp2_with fail;refine(y.out _ e).mono ?_;rintro f R⟨rfl,T,ac,aq⟩;have ad:=((AQ.refl F w).dr e).trans aq;by_cases B:c=0
   ·have ab:=aD B;subst B;rw[kX rfl]at j;obtain⟨a2,a3⟩:=g;simp only at ab;subst ab;simp only at j;obtain⟨a4,a0,az,aW,aR,aI,K,ao⟩:=ac;have I:=K.at;have ap:a<az:=by rw[<-I.TL,YU];simpa using X
    have aG:=I.y6;have ah:=I.hd a ap;rw[show hdN (YU s a (Az o)) a=hdN s a from rfl]at ah;have aE:=K.hd.frozen a;have U:=Ac (λW(Q:Dr R W)=>K.held ao a u av Q);go_wp2_with fail;go_region_with(go_at_call 150;go_loud(refine(G _).mono ?_;rintro f a5⟨rfl,q,rfl⟩))
    all_goals(clear aG ah aE G;go_wp2_with fail)
    all_goals(go_ret)
    all_goals(rw[j.out])
    all_goals(first
     |exact⟨rfl,T,(U _ (Dr.one R _)).1,ad.trans (U _ (Dr.one R _)).2⟩)
   ·rw[lg B]at j;have t9:(c !=0)=true:=by rw[bne_iff_ne];exact B
    have an:=Ac ac;have am:=Ac ad;go_wp2;go_ret;rw[j.out];exact⟨rfl,T,an,am⟩
def Aig{m:DJ}(h:Fg m w d p L s F)(off:Int)(C: -9223372036854775808<=off/\off<=9223372036854775807){i a:Nat}(v:Jg s off=jm (i,a))(A:(EL (hdN s i) a).2=jO):
 Calls prog 98 #[AB p,off] w λg w'=>g=iO (gz iU 0)/\Fg m w' d p L {s with hd:=s.hd.set i (Az (EL (hdN s i) a).1)} F/\AQ F F w w':=by
 obtain⟨tb,hb,n,cT,cH,own,k,hF⟩:=h;have e:=Ac k.at;have B:=k.TL;obtain⟨j,E,-⟩:=Qq v;rw[B]at j;have y:Hid (J5 s off=iJ #[i,a,jO]):=Ac (by rw[J5,v]);have q:=Ac k;have z:=Ac hF;obtain⟨f,l⟩:∃f,(EL (hdN s i) a).1=f:=⟨_,rfl⟩;have D:f<18446744073709551616:=by rw[<-l];exact gZ _ _ (Og s i) O
 have o:=Ac (Yg (hdN s i) a · (Og s i) O);rw[l,A]at o;rw[l];go_in;go_wp2_with(first|(refine(Iy e).ro ?_)|(refine(JB e off C).mono ?_;rintro g G⟨rfl,c⟩;rw[y.out];have b:=e.out.dr c;have x:=b.y6;have t:=b.hd i j;clear b)|(refine(o _).mono ?_;rintro g w'⟨rfl,u⟩;replace c:=c.trans u;clear x t u;have b:=e.out.dr c;have x:=b.y6;have t:=b.hd i j;have f2:=(q.dr c).hd.frozen i;have r:=Ac (q.held z i f D c);clear b));go_ret;exact⟨rfl,r.1,r.2⟩
def LZ{q:Ms}(h:LY w d p L q F)(off:Int)(y: -9223372036854775808<=off/\off<=9223372036854775807):
 Calls prog 98 #[AB p,off] w λf w'=>f=iO (gz iU (DT q off).2)/\∃J,LY w' d p L (DT q off).1 J/\AQ F J w w':=by
 obtain⟨i,s⟩:=q;have z:=h;obtain⟨tb,hb,n,cT,cH,own,M,hF⟩:=h;have e:=Ac M.at;have U:=M.TL;cases j:Jg s off with
 |none=>
  have k:Hid (DT ⟨i,s⟩ off=(⟨i,s⟩,7)):=Ac (by rw[DT,j]);have v:Hid (J5 s off=iJ #[gz iU 0,gz iU 0,jS]):=Ac (by rw[J5,j]);have A:=Ac z;go_in;go_wp2_with fail;refine(Iy e).ro ?_;go_wp2_with fail;refine(JB e off y).mono ?_;rintro f N⟨rfl,b⟩;rw[v.out];go_wp2;go_ret;rw[k.out];exact⟨rfl,F,A.dr b,(AQ.refl _ _).dr b⟩
 |some Y=>
  obtain⟨a,l⟩:=Y;obtain⟨g,aa,-⟩:=Qq j;have S:=g;rw[U]at g;have v:Hid (J5 s off=iJ #[a,l,jO]):=Ac (by rw[J5,j]);have A:=Ac z;obtain⟨G,E⟩:∃G,(EL (hdN s a) l).1=G:=⟨_,rfl⟩;have u:=Ac (Yg (hdN s a) l · (Og s a) O);rw[E]at u;cases r:(EL (hdN s a) l).2
  ·rw[r]at u;obtain⟨t,D⟩:∃t,(EL (Iu s a) l).1=t:=⟨_,rfl⟩;have X:t<18446744073709551616:=by rw[<-D];exact gZ _ _ (TM s a) O
   have o:=Ac (Yg (Iu s a) l · (TM s a) O);rw[D]at o;cases x:(EL (Iu s a) l).2
   ·rw[x]at o;have k:Hid (DT ⟨i,s⟩ off=(⟨i,s⟩,7)):=Ac (by rw[DT,j];simp[r,x]);go_in;go_wp2_with fail;refine(Iy e).ro ?_;go_wp2_with fail;refine(JB e off y).mono ?_;rintro f N⟨rfl,b⟩;rw[v.out];have c:=e.dr b;have H:=c.y5;have I:=c.y6;have B:=c.tk a g;have C:=c.hd a g;go_wp2_with fail;refine(u _).mono ?_;rintro f w'⟨rfl,m⟩;replace b:=b.trans m;have c:=e.dr b;have H:=c.y5;have I:=c.y6;have B:=c.tk a g;have C:=c.hd a g;go_wp2_with fail;refine(o _).mono ?_;rintro f w'⟨rfl,m⟩;replace b:=b.trans m;go_wp2;go_ret;rw[k.out];exact⟨rfl,F,A.dr b,(AQ.refl _ _).dr b⟩
   ·rw[x]at o;have k:Hid (DT ⟨i,s⟩ off=NP ⟨i,s⟩ a (Az t)):=Ac (by rw[DT,j];simp[r,x,D]);have Q:=Ac (λW(Z:Dr w W)=>oN (q:=⟨i,s⟩) (z.dr Z) a t S X);go_in;go_wp2_with fail;refine(Iy e).ro ?_;go_wp2_with fail;refine(JB e off y).mono ?_;rintro f N⟨rfl,b⟩;rw[v.out];have c:=e.dr b;have H:=c.y5;have I:=c.y6;have B:=c.tk a g;have C:=c.hd a g;go_wp2_with fail;refine(u _).mono ?_;rintro f w'⟨rfl,m⟩;replace b:=b.trans m;have c:=e.dr b;have H:=c.y5;have I:=c.y6;have B:=c.tk a g;have C:=c.hd a g;go_wp2_with fail;refine(o _).mono ?_;rintro f w'⟨rfl,m⟩;replace b:=b.trans m;go_wp2_with fail;refine(Q _ b).mono ?_;rintro f ab⟨rfl,P,V,T⟩;go_wp2;go_ret;rw[k.out];exact⟨rfl,P,V,((AQ.refl F w).dr b).trans T⟩
  ·have k:Hid (DT ⟨i,s⟩ off=(⟨i,{s with hd:=s.hd.set a (Az G)}⟩,0)):=Ac (by rw[DT,j];simp[r,E]);refine(Aig z off y j r).mono ?_;rintro f w'⟨rfl,K,R⟩;rw[k.out];rw[E]at K;exact⟨rfl,F,K,R⟩
end
def oO(k:Nat)(w:jT)(d:k<=10000):Calls prog 36 #[k] w λa w'=>a=iO (gz iU (LQ k:Nat))/\w=w':=by
 have b:((k:Int)+8-1)/8=(((k+7)/8:Nat):Int):=O;have c:(2:Int)+(((k+7)/8:Nat):Int)=(LQ k:Nat):=by unfold LQ;omega
 have hb:(k+7)/8<=2000:=O;generalize(k+7)/8=q at*;go_in;go_wp2;go_ret;exact⟨by rw[<-c];simp[b],rfl⟩
def Amw(k b:Nat)(w:jT)(e:k<=10000)(hb:w.cell? (Φ b)=jm (.func (.func 36) #[] #[])):
 Calls prog 37 #[k,AB b] w λc w'=>c=iO (gz iU (QO k:Nat))/\w=w':=by
 have f:LQ k<=3000:=by unfold LQ;omega
 have a:=Ac (oO k w e);have d:((LQ k:Nat):Int)+16*(k:Int)=(QO k:Nat):=by unfold QO;omega
 generalize LQ k=q at*;go_in;go_wp2_with(refine a.out.ro ?_);go_ret;exact⟨by rw[<-d];rfl,rfl⟩
def ofV(L:Nat):Value:=match shapeOf L with
 |some a=>iJ #[iK #[gz iU (a.lines:Nat),gz iU (a.CE:Nat),gz iU (a.table:Nat),gz iU (a.data:Nat)],jO]
 |none=>iJ #[iK #[gz iU 0,gz iU 0,gz iU 0,gz iU 0],jS]
def uj(L k:Nat)(c:k<L)(h:QO (k+1)<=L):LP L (L-k) k=LP L (L-(k+1)) (k+1):=by
 obtain⟨a,b⟩:∃a,L-k=a+1:=⟨L-k-1,O⟩;rw[b,show L-(k+1)=a by omega,LP,kX h]
def uk(L k:Nat)(h:¬QO (k+1)<=L):LP L (L-k) k=k:=by
 cases b:L-k with
 |zero=>rfl
 |succ a=>rw[LP,lg h]
def Ac5{P:Program}(a:Addr)(F:Fn)(c b:Array ku)(w:jT):(store a (.func F c b)).run P w=stored P w a (.func F c b) .plain:=run_store P w a _ .plain rfl
def oP{f:Ending->jT->Prop}{W:jT}{e:Array ku}(g:Nat){a b c d:ku}(h:Cm W g 55 [a,b,c,d])(v:ku)(h2:e[2]?=jm (AB g))(h3:e[3]?=jm v)
 (i:f (iO (iJ #[iK #[a,b,c,d],v])) W):bodyPost prog Tryz.f20 f Exit.ret {tmps:=e,defers:=[]} W:=by
 obtain⟨j,k,l,m,f0,f1,f2,f3⟩:=Dp h;refine bodyPost_ret (v:=iJ #[iK #[a,b,c,d],v]) (by simp[results,results20,go_sem,h2,h3,j,k,l,m]) rfl i
def Xg(L:Nat)(w:jT)(K:L<=1024):Calls prog 20 #[L] w λG w'=>G=iO (ofV L)/\η w w':=by
 have t1:=dF ((1024:Int)<(L:Int));have s:Cm (w.alloc (ji #[gz iU 0,gz iU 0,gz iU 0,gz iU 0] 55)) w 55 [gz iU 0,gz iU 0,gz iU 0,gz iU 0]:=heap_alloc_new _ _;have n:(w.alloc (ji #[gz iU 0,gz iU 0,gz iU 0,gz iU 0] 55)).heap.size=w+1:=by simp
 have j:Cm ((w.alloc (ji #[gz iU 0,gz iU 0,gz iU 0,gz iU 0] 55)).alloc (ji #[.nilFunc] 103)) (w+1) 103 [.nilFunc]:=by rw[<-n];exact heap_alloc_new _ _
 have E:=j.c0;have f1:=j.frozen 0;have Q:=λD H F W=>Ac5 (P:=prog) D (.func 36) H F W
 go_in;go_wp2_with fail;obtain⟨W,c⟩:=ε (((w.alloc (ji #[gz iU 0,gz iU 0,gz iU 0,gz iU 0] 55)).alloc (ji #[.func (.func 36) #[] #[]] 103)));rw[<-c];have q:Cm W (w+1) 103 [.func (.func 36) #[] #[]]:=by rw[c,<-n];exact heap_alloc_new _ _
 have A:Cm W w 55 [gz iU 0,gz iU 0,gz iU 0,gz iU 0]:=by
  rw[c];exact(χ _ _ O).trans s
 have y:η w W:=by rw[c];exact((mZ.alloc (Ae _) _).alloc Θ _)
 obtain⟨u,l,t⟩:=l9 (q.cell 0) A y;clear s j E f1 c q A n y;go_loopw [6](λo wr=>∃a,a<=L/\o=gz iU (a:Nat)/\wr=W/\LP L (L-a) a=TE L)(λo _=>L-(intOf o).toNat)
 case atStart=>exact⟨0,Bd _,rfl,rfl,by rw[Nat.sub_zero];rfl⟩
 case round=>
  obtain⟨a,N,rfl,rfl,f⟩:=hrel;have d:=Ac (Amw (a+1) (w+1) wr O (by have:=u.out;simpa using this));by_cases b:QO (a+1)<=L
  ·have I:a<L:=by unfold QO at b;omega
   have J:=dT (QO (a+1)<=L);have C:Hid (LP L (L-(a+1)) (a+1)=TE L):=Ac (by rw[<-uj L a I b];exact f);generalize QO (a+1)=i at*;clear f;go_wp2_with(rw[show(a:Int)+1=((a+1:Nat):Int)by omega];refine d.ro ?_);exact⟨⟨a+1,O,by go_num,trivial,C⟩,mz⟩
  ·have g:TE L=a:=by rw[<-f];exact uk L a b
   obtain⟨i,z⟩:∃i,QO (a+1)=i:=⟨_,rfl⟩;rw[z]at d b;have J:=dF (i<=L);clear f b z;have B:=Ac (oO a wr O);obtain⟨R,S,T,U,f0,f1,f2,f3⟩:=Dp l;by_cases x:a=0
   ·subst x;have k:Hid (ofV L=iJ #[iK #[gz iU 0,gz iU 0,gz iU 0,gz iU 0],jS]):=Ac (by
     unfold ofV shapeOf;rw[lg O];simp[g])
    have e:=d.out;rw[show(((0+1:Nat)):Int)=1 from rfl]at e;have e:=Ac e;clear g;go_wp2_with(refine e.out.ro ?_);have r:=(((l.Be 0 (gz iU 0)).Be 1 (gz iU 0)).Be 2 (gz iU 0)).Be 3 (gz iU 0);have m:=(((t.setCell (p:=Φ w) (Ae _) (gz iU 0)).setCell (p:=Δ w 1) (Ae _) (gz iU 0)).setCell (p:=Δ w 2) (Ae _) (gz iU 0)).setCell (p:=Δ w 3) (Ae _) (gz iU 0);refine oP w r (iw jS) rfl rfl ?_;exact⟨by rw[k.out],m⟩
   ·have k:Hid (ofV L=iJ #[iK #[gz iU (L:Nat),gz iU (a:Nat),gz iU 128,gz iU ((64*LQ a:Nat):Int)],jO]):=Ac (by
     unfold ofV shapeOf;rw[lg O];simp[g,x,KD])
    have t3:((a:Int)==0)=false:=ζ O;have M:LQ a<=3000:=by unfold LQ;omega
    have q:wr.cell? (Φ (w+1))=jm (.func (.func 36) #[] #[]):=by have:=u.out;simpa using this
    generalize LQ a=v at*;clear g;go_wp2_with(first|(rw[show(a:Int)+1=((a+1:Nat):Int)by omega];refine d.ro ?_)|(refine B.ro ?_));have r:=(((l.Be 0 (gz iU (L:Int))).Be 1 (gz iU (a:Int))).Be 2 (gz iU 128)).Be 3 (gz iU ((v:Int)*64));have m:=(((t.setCell (p:=Φ w) (Ae _) (gz iU (L:Int))).setCell (p:=Δ w 1) (Ae _) (gz iU (a:Int))).setCell (p:=Δ w 2) (Ae _) (gz iU 128)).setCell (p:=Δ w 3) (Ae _) (gz iU ((v:Int)*64));refine oP w r (iw jO) rfl rfl ?_;exact⟨by rw[k.out];simp[Int.mul_comm],m⟩
def shV(sh:Sh):Value:=iK #[gz iU (sh.lines:Nat),gz iU (sh.CE:Nat),gz iU (sh.table:Nat),gz iU (sh.data:Nat)]
def Aih(x:Nat)(a:x<18446744073709551616):wv (Az x)=gz iV (x:Int):=by
 simp only[wv,IX];rw[Ho a]
def Wy:∀n,leBytes (BJ n (0:ni))=BJ (8*n) (0:nC)
 |0=>rfl
 |n+1=>by
  rw[XF,leBytes,Wy n,show YT 0=BJ 8 (0:nC)by decide,List.replicate_append_replicate,show 8+8*n=8*(n+1)by omega]
def Uy(H:List ni)(k:Nat):List ni:=H.take k++BJ (H.length-k) 0
def um(H:List ni)(k:Nat)(a:k<=H.length):(Uy H k).length=H.length:=by simp[Uy];omega
def Aii(H:List ni)(k:Nat)(b:k<H.length):(Uy H k).set k H[k]=Uy H (k+1):=by
 obtain⟨a,c⟩:∃a,H.length-k=a+1:=⟨H.length-k-1,O⟩;unfold Uy;rw[c,show H.length-(k+1)=a by omega,VV _ _ (by simp;omega)];simp only[Cc,EI (Lh b),Pv,XF,List.set_cons_zero];rw[List.take_succ_eq_append_getElem b,List.append_assoc];rfl
def Aij(H:List ni):Uy H H.length=H:=by simp[Uy]
def WA(sh:Sh)(w:jT)(ab:sh.lines<=1024)(P:shapeOf sh.lines=jm sh)(G:Aq3 w):Calls prog 23 #[shV sh] w λe w'=>∃ap,e=iO ap/\w'.ownsRow w 47 1 ap 8 ((wordsOf sh).map wv)/\η w w':=by
 have ad:=λW=>Xg sh.lines W ab
 have C:Hid (ofV sh.lines=iJ #[shV sh,jO]):=Ac (by rw[ofV,P];rfl);have Z:=Ac ad;have m:=J4 P;have aG:=m.fits;obtain⟨i,Q⟩:∃d,sh.CE=d:=⟨_,rfl⟩;obtain⟨tb,R⟩:∃d,sh.table=d:=⟨_,rfl⟩;obtain⟨f,I⟩:∃d,sh.data=d:=⟨_,rfl⟩;obtain⟨l,M⟩:∃d,sh.lines=d:=⟨_,rfl⟩;have an:shV sh=iK #[l,i,tb,f]:=by rw[shV,Q,R,I,M]
 rw[an]at C⊢;rw[M]at C Z ab;clear ad an;go_in;go_wp2_with fail;have X:Cm (w.alloc (ji #[l,i,tb,f] 55)) w 55 [l,i,tb,f]:=heap_alloc_new _ _;refine(Z _).mono ?_;rintro e k⟨rfl,H⟩;have A:=X.below H Θ;have Y:η w k:=(mZ.alloc (Ae _) _).trans (H.mono Θ);have bp:w.heap.size<k:=A.lt;obtain⟨bg,bh,bi,bj,f0,f1,f2,f3⟩:=Dp A;clear H X f0 f1 f2 f3;rw[C.out];obtain⟨bc,a4,a9,ba,bb⟩:=info_parts Tryz.infoByte;obtain⟨a,z⟩:∃a,headW sh=a:=⟨_,rfl⟩;have o:a.length=6:=by rw[<-z];rfl
 have am:[AA iV 465675318387,gz iV 1,gz iV (l:Int),gz iV (i:Int),gz iV (tb:Int),gz iV (f:Int),gz iV 0,gz iV 0]=(a++[0,0]).map wv:=by
  have e:∀d:Nat,d<1000000->((Az d).toNat:Int)=(d:Int):=λd bs=>by rw[IX,Ho O]
  have a0:=e l O;have a1:=e i (Ω m.fits);have a2:=e tb (Ω m.table);have a3:=e f (Ω m.fits);rw[<-z,headW,M,Q,R,I];simp only[BM,DR,List.map_cons,List.map_nil,wv,a0,a1,a2,a3];rfl
 have bk:i<=1000000:=Ω m.fits;have bl:tb<=1000000:=Ω m.table;have bm:f<=1000000:=Ω m.fits;have bd:=Ac am;have av:=Ac z;clear am z m aG Q R I P;go_wp2_with(at_make;go_loud(refine wpList_make_full _ rfl _ _ 22 rfl w 5 bc (gz .u8 0) 1 underlying22 a4 a9 ba iU iU _ _ 48 rfl rfl rfl rfl (by rw[bb];decide) U (by simp;omega) ?_);intro be v J);obtain⟨s,t⟩:=ε ((k.alloc (ji #[l,i,tb,f] 55)).alloc (ji #[gz iV 465675318387,gz iV 1,gz iV (l:Int),gz iV (i:Int),gz iV (tb:Int),gz iV (f:Int),gz iV 0,gz iV 0] 47));have F:Cm s (k+1) 47 ((a++[0,0]).map wv):=by
  have e:(k.alloc (ji #[l,i,tb,f] 55)).heap.size=k+1:=by simp
  rw[<-bd.out,<-e,t];exact heap_alloc_new _ _
 have al:η w s:=by rw[t];exact(Y.alloc O _).alloc (by simp;omega) _
 rw[<-t]at J v;have a8:s.heap.size=k+1+1:=by rw[t];simp
 rw[a8]at v;have a7:=F.lt;have V:η s be:=mZ.grown J (Ae _) Θ;rw[TA,show BJ 48 (0:nC)=leBytes (Uy a 0)by rw[Uy,Aqn,DR,o,Wy]]at v;have aw:=Ac F;have x:=Ac al;clear F al J t bg bh bi bj A Y;go_loopw [6,39](λaE S wr=>∃b g c,b<=6/\S=gz iU (b:Nat)/\aE=fM (jm (Φ g)) 48 c/\wr.ownsRow w 5 1 (fM (jm (Φ g)) 48 c) 48 ((leBytes (Uy a b)).map bv)/\η s wr)(λ_ S _=>6-(intOf S).toNat)
 case atStart=>
  refine⟨0,_,_,Bd _,rfl,rfl,v,V⟩
 case round=>
  obtain⟨b,g,c,bq,rfl,rfl,u,r⟩:=hrel;clear v V;have q:=aw.below r a7;by_cases br:b<6
  ·have L:b<a.length:=O;have aI:=q.cell b;have aa:((a++[0,0]).map wv)[b]?=jm (gz iV (a[b].toNat:Int)):=by
    rw[CP,DK L,Ag L];rfl
   rw[aa]at aI;have ao:=Ac (aj (jm (Φ g)) 48 c b (Uy a b) a[b] wr U (Dk u).2 (by rw[um a b O];omega));have ar:=Ac (Aii a b L);generalize a[b]=d at*;have y:=Ac r;clear q aa u r;go_wp2_with(refine ao.out.mono ?_;rintro e bt⟨aW,aL,rfl,N,ah⟩;rw[ar.out]at N;have aD:=Ac (FI (base':=w) N (AZ x.size y.size));have au:=Ac (τ y.out ah);clear N ah ao);exact⟨⟨b+1,aW,aL,O,by go_num,rfl,aD,au⟩,mz⟩
  ·have a5:b=6:=O;subst a5;rw[show Uy a 6=a by rw[<-o];exact Aij a]at u;have ae:Aq3 wr:=λj K=>(r.cell (p:=Δ 0 j) (Bc (Hq w _ (G j K)) x.size)).trans ((x.cell (p:=Δ 0 j) (Hq w _ (G j K))).trans (G j K))
   have aq:=Ac (Acl (jm (Φ g)) 48 c (leBytes a) wr U (Dk u).2 ae);have bo:Oz 0 (leBytes a)<4294967296:=by
    unfold Oz;have:=fE 0 (leBytes a) U (leBytes a).length (Ae _);rw[Sl,I7]at this;exact Nat.xor_lt_two_pow (n:=32) this U
   have D:Hid (wordsOf sh=a++[Az (Oz 0 (leBytes a)),0]):=Ac (by rw[wordsOf,av.out]);generalize Oz 0 (leBytes a)=E at*;have aM:=q.cell 6;rw[CP,Ez O,o]at aM;have f6:=q.frozen 6;have az:=Ac q;have y:=Ac r;clear q u r ae;go_wp2_with(refine aq.out.ro ?_)
   trace_state
   go_ret;have ac:=az.Be 6 (gz iV (E:Int));have aR:((a++[0,0]).map wv).set 6 (gz iV (E:Int))=(wordsOf sh).map wv:=by
    rw[D.out,<-Aih E O,<-O9,VV _ _ O,o];rfl
   rw[aR]at ac;have T:=ac.own (B:=w) O (by rw[Df,D.out];simp[o];decide);have a6:((wordsOf sh).map wv).length=8:=by rw[Df,D.out];simp[o]
   rw[a6]at T;exact⟨_,rfl,T,(τ x.out y.out).setCell (p:=Δ (k+1) 6) (by show w.heap.size<=k+1;omega) _⟩
def Xh{f:Ending->jT->Prop}{W:jT}{e:Array ku}{i:Func}(k:i.results= #[.cell 2 55,.tmp 3])(g:Nat){a b c d:ku}(h:Cm W g 55 [a,b,c,d])(v:ku)(h2:e[2]?=jm (AB g))(h3:e[3]?=jm v)
 (j:f (iO (iJ #[iK #[a,b,c,d],v])) W):bodyPost prog i f Exit.ret {tmps:=e,defers:=[]} W:=by
 obtain⟨l,m,n,o,f0,f1,f2,f3⟩:=Dp h;refine bodyPost_ret (v:=iJ #[iK #[a,b,c,d],v]) (by simp[results,k,go_sem,h2,h3,l,m,n,o]) rfl j
def Dev.box{w:jT}{d L:Nat}{ws:Nat->ni}{len:Mode}{o7:Nat->Nat}{own:Nat->Prop}(h:Dev w d L ws len o7 own):∃g c e f,Cm w d 70 [fM (jm (Φ g)) L L,c,e,f]:=by
 obtain⟨g,hb,b,_⟩:=h;obtain⟨i,a⟩:=b.box;exact⟨g,_,_,_,a⟩
def Dev.size{w:jT}{d L:Nat}{ws:Nat->ni}{len:Mode}{o7:Nat->Nat}{own:Nat->Prop}(h:Dev w d L ws len o7 own)(b:L<=1024):Calls prog 19 #[AB d] w λa w'=>a=iO (gz iU ((L*64:Nat):Int))/\w=w':=by
 obtain⟨g,_,_,_,c⟩:=h.box;exact UQ d L g _ _ _ w b c
def Ac6{w:jT}{d L:Nat}{ws:Nat->ni}{own:Nat->Prop}{sh:Sh}(ae:0<L)(q:L<=1024)(E:shapeOf L=jm sh)(h:Dev w d L ws M0 (λ_=>0) own)(bm:Tabs w)(bj:¬own 0)(bk:¬own 1):
 Calls prog 15 #[AB d] w λb w'=>b=iO (iJ #[shV sh,gz iU 0])/\
  ∃aR,Dev w' d L (CQ (CQ ws 0 (BJ (8*L) 0)) 0 (wordsOf sh)) M0 (λ_=>0) aR/\AQ own aR w w':=by
 have bx:=J4 E;have bp:=bx.lines;have C:=h.lt;obtain⟨N,al⟩:=ε (L*64);have bg:=Ac (λW(h:Dev W d L ws M0 (λ_=>0) own)=>by have:=h.size q;rw[<-al]at this;exact this);have bB:(N:Int)/64=(L:Int):=O;have t1:((L:Int)==0)=false:=ζ O;have bb:=Ac (λW=>Xg L W q);have V:Hid (ofV L=iJ #[shV sh,jO]):=Ac (by rw[ofV,E];rfl);obtain⟨e,f,g,i,F⟩:∃e f g i:Nat,shV sh=iK #[e,f,g,i]:=⟨_,_,_,_,rfl⟩;have T:=Ac F;rw[F]at V;have n:Cm (w.alloc (ji #[gz iU 0,gz iU 0,gz iU 0,gz iU 0] 55)) w.heap.size 55 [gz iU 0,gz iU 0,gz iU 0,gz iU 0]:=heap_alloc_new _ _;have s:η w (w.alloc (ji #[gz iU 0,gz iU 0,gz iU 0,gz iU 0] 55)):=mZ.alloc (Ae _) _;have P:=Ac h;clear h al F;go_in;go_wp2_with fail;obtain⟨W0,av⟩:=ε (w.alloc (ji #[gz iU 0,gz iU 0,gz iU 0,gz iU 0] 55));rw[<-av]at n s⊢;have bq:w.heap.size<W0.heap.size:=n.lt;clear av;refine(bg _ (P.below s)).ro ?_;go_wp2_with(refine(bb.out _).mono ?_;rintro b m⟨rfl,B⟩;rw[V.out];have K:=τ s B;have J:=n.below B bq;have M:=Ac K;have a5:=Ac J;clear s B n J K);obtain⟨y,r⟩:=ε (m.alloc (ji #[e,f,g,i] 55));have ap:Cm y m.heap.size 55 [e,f,g,i]:=by rw[r];exact heap_alloc_new _ _
 have x:η m y:=by rw[r];exact mZ.alloc (Ae _) _
 have am:=a5.out.ξ x;have o:=τ M.out x;have bL:w.heap.size<=m.heap.size:=M.size;have aa:=P.below o;have au:=bm.below o;rw[<-r];clear r x;obtain⟨Q,S,a6,v,X⟩:=lM am ap o au (Aie ae q aa);clear am ap o au aa;refine X.mono ?_;rintro b aW⟨rfl,u,ab,c,D⟩;have aL:¬own w.heap.size:=λh=>Ω (C _ h)
 have aM:¬own m.heap.size:=λh=>Ω (C _ h)
 have an:=Q.touch c aL;have A:=S.touch c aM;have Z:=v.keep (c.block _ v.lt.1 bj) (c.block _ v.lt.2 bk);have ah:AQ own u w aW:=(mW a6).trans ⟨c,D⟩;obtain⟨a0,a1,a2,a3,_,_,_,_⟩:=Dp A;have aG:∀a,a<y.heap.size->¬own a->¬u a:=λa C br h=>(D a h).elim br (λh=>O)
 have aI:=aG _ Q.lt aL;have bt:=aG _ S.lt aM;obtain⟨bc,bh,a7,a9⟩:=lL an A ab ah;have k:=WA sh aW O (by rw[bp];exact E) Z.fours;rw[T.out]at k;have k:=Ac k;clear ab c D an A Z ah X;go_wp2_with(first|(refine k.out.mono ?_;rintro b bA⟨bM,rfl,az,l⟩;obtain⟨a4,bi,rfl,bE,aD⟩:=CY az;obtain⟨bl,bo,aE,aw⟩:=a7.out;have ac:Dev bA d L (CQ ws 0 (BJ (8*L) 0)) M0 (λ_=>0) u:=⟨bl,bo,aE.below l,aw⟩;have j:=gX ae q ac 0 8 bi a4 (wordsOf sh) O U aD;rw[show((8*0:Nat):Int)=0 from rfl]at j;have j:=Ac j;have ao:=bc.out.ξ l;have aq:=bh.out.ξ l;obtain⟨R,be,ba⟩:=l9 ao aq (a9.below l);clear ac aE aw az aD l ao aq a0 a1 a2 a3 k)|(refine j.out.mono ?_;rintro b H⟨rfl,I,ad,t,z⟩;have G:=R.touch t aI;have ar:=be.touch t bt;have Y:=Ac (ba.trans ⟨t,z⟩);have bw:¬I w.heap.size:=λh=>(z _ h).elim aI (λh=>Ω R.lt);have a8:=Ac ad;obtain⟨a0,a1,a2,a3,_,_,_,_⟩:=Dp ar;obtain⟨bN,bO,bQ,bR,f0,f1,f2,f3⟩:=Dp G;have bd:=Ac G;clear ad t z G ar j));have bs:=(((bd.Be 0 (gz iU (e:Int))).Be 1 (gz iU (f:Int))).Be 2 (gz iU (g:Int))).Be 3 (gz iU (i:Int));have t9:Touch (·=w.heap.size) H ((((H.setCell (Φ w) (gz iU (e:Int))).setCell (Δ w 1) (gz iU (f:Int))).setCell (Δ w 2) (gz iU (g:Int))).setCell (Δ w 3) (gz iU (i:Int))):=
  ((((Touch.refl (·=w.heap.size) H).setCell (p:=Φ w) (.inl rfl) _).setCell (p:=Δ w 1) (.inl rfl) _).setCell (p:=Δ w 2) (.inl rfl) _).setCell (p:=Δ w 3) (.inl rfl) _
 refine Xh rfl w.heap.size bs (gz iU 0) rfl rfl ?_;refine⟨by rw[T.out],I,a8.touch t9 (λa hb b=>bw (b▸hb)),⟨?_,Y.own⟩⟩;exact(Y.touch.trans t9 (λa hb=>.inr O))
def iy(ws:Nat->ni)(sh:Sh):Value:=if wordsAt ws 0 8=wordsOf sh then iJ #[shV sh,gz iU 0]else iJ #[iK #[gz iU 0,gz iU 0,gz iU 0,gz iU 0],gz iU 5]
def Ail{len:Mode}{w:jT}{d L:Nat}{ws:Nat->ni}{own:Nat->Prop}{sh:Sh}(a0:0<L)(F:L<=1024)(I:shapeOf L=jm sh)(a7:len.lf≠0)(h:Dev w d L ws len (λ_=>0) own)(a1:Tabs w):
 Calls prog 85 #[AB d] w λe w'=>e=iO (iy ws sh)/\η w w':=by
 have a9:=J4 I;have a3:=a9.lines;obtain⟨N,ad⟩:=ε (L*64);have aG:=Ac (λW(h:Dev W d L ws len (λ_=>0) own)=>by have:=h.size F;rw[<-ad]at this;exact this);have bh:(N:Int)/64=(L:Int):=O;have t1:((L:Int)==0)=false:=ζ O;have az:=Ac (λW=>Xg L W F);have ac:Hid (ofV L=iJ #[shV sh,jO]):=Ac (by rw[ofV,I];rfl);obtain⟨g,i,j,k,J⟩:∃g i j k:Nat,shV sh=iK #[g,i,j,k]:=⟨_,_,_,_,rfl⟩;have ab:=Ac J;rw[J]at ac;have s:Cm (w.alloc (ji #[gz iU 0,gz iU 0,gz iU 0,gz iU 0] 55)) w 55 [gz iU 0,gz iU 0,gz iU 0,gz iU 0]:=heap_alloc_new _ _;have n:η w (w.alloc (ji #[gz iU 0,gz iU 0,gz iU 0,gz iU 0] 55)):=mZ.alloc (Ae _) _;have Z:=Ac (λW(a8:η w W)=>(h.below a8:Dev W d L ws len (λ_=>0) own));clear h ad J;go_in;go_wp2_with fail;obtain⟨W0,ah⟩:=ε (w.alloc (ji #[gz iU 0,gz iU 0,gz iU 0,gz iU 0] 55));rw[<-ah]at s n⊢;have a4:w.heap.size<W0:=s.lt;clear ah;refine(aG _ (Z _ n)).ro ?_;obtain⟨aW,a2,aq,a6⟩:=Z _ n;have l:=tK d L ws _ _ aW a2 0 8 W0 a0 F a7 aq O;rw[show((8*0:Nat):Int)=0 from rfl]at l;have l:=Ac l;clear aq a6;go_wp2_with fail;refine l.out.mono ?_;rintro e ba⟨bk,rfl,al,H⟩;obtain⟨P,aM,rfl,bi,an⟩:=CY al;have X:=τ n H;have T:=s.below H a4;have aa:Hid (Ws ba P 8 (wordsAt ws 0 8)):=Ac an;have av:=Ac X;have x:=Ac T;clear n H s T X al an l;go_wp2_with fail;refine(az _).mono ?_;rintro e M⟨rfl,v⟩;rw[ac.out];have V:=τ av.out v;have a5:=x.lt;have R:=x.below v a5;have ao:=aa.below v;obtain⟨C,u⟩:=ε (M.alloc (ji #[g,i,j,k] 55));have t:η M C:=by rw[u];exact mZ.alloc (Ae _) _
 have ae:Cm C M 55 [g,i,j,k]:=by rw[u];exact heap_alloc_new _ _
 have S:=R.ξ t;have B:=τ V t;have m:=WA sh C O (by rw[a3];exact I) (a1.below B).fours;rw[ab.out]at m;obtain⟨m,aD,aL,au,aw,aI⟩:=lN m (ao.below t) ae S B u;clear V R ao t ae S B v u x aa;go_wp2_with fail;rw[<-aI.out];refine m.out.mono ?_;rintro e b⟨bl,rfl,am,o⟩;obtain⟨ar,aR,rfl,bj,ap⟩:=CY am;obtain⟨HEq,aE,Q,Y⟩:=lL (TK P ar 8 8 aM aR (wordsAt ws 0 8) (wordsOf sh) b U U (aD.below o) ap) (aL.out.ξ o) (au.out.ξ o) (τ aw.out o);clear am ap o m;by_cases f:wordsAt ws 0 8=wordsOf sh
 ·rw[decide_eq_true f]at HEq;have z:Hid (iy ws sh=iJ #[shV sh,gz iU 0]):=Ac (by rw[iy,kX f]);clear f;go_wp2_with fail;refine HEq.mono ?_;rintro e bb⟨rfl,q,rfl⟩;have G:=aE.out.ξ ((Dr.one b q).below _);have a:=Q.out.ξ ((Dr.one b q).below _);obtain⟨D,c⟩:=ε (b.drewN q);have r:η w D:=Y.trans ((by rw[c];exact(Dr.one b q).below _));rw[<-c]at G a⊢;clear c;obtain⟨bm,bo,bp,bq,_,_,_,_⟩:=Dp G;obtain⟨bc,bd,be,bg,f0,f1,f2,f3⟩:=Dp a;have y:=Ac a;have A:=Ac r;clear a G r;go_wp2_with fail;have K:=(((y.Be 0 (gz iU (g:Int))).Be 1 (gz iU (i:Int))).Be 2 (gz iU (j:Int))).Be 3 (gz iU (k:Int));have E:=(((A.setCell (p:=Φ w) (Ae _) (gz iU (g:Int))).setCell (p:=Δ w 1) (Ae _) (gz iU (i:Int))).setCell (p:=Δ w 2) (Ae _) (gz iU (j:Int))).setCell (p:=Δ w 3) (Ae _) (gz iU (k:Int));refine Xh rfl w K (gz iU 0) rfl rfl ?_;exact⟨by rw[z.out,ab.out],E⟩
 ·rw[decide_eq_false f]at HEq;have z:Hid (iy ws sh=iJ #[iK #[gz iU 0,gz iU 0,gz iU 0,gz iU 0],gz iU 5]):=Ac (by rw[iy,lg f]);clear f;go_wp2_with fail;refine HEq.mono ?_;rintro e bb⟨rfl,q,rfl⟩;have a:=Q.out.ξ ((Dr.one b q).below _);obtain⟨D,c⟩:=ε (b.drewN q);have r:η w D:=Y.trans ((by rw[c];exact(Dr.one b q).below _));rw[<-c]at a⊢;clear c;obtain⟨bc,bd,be,bg,f0,f1,f2,f3⟩:=Dp a;have y:=Ac a;have A:=Ac r;clear a r;go_wp2_with fail;have K:=(((y.Be 0 (gz iU 0)).Be 1 (gz iU 0)).Be 2 (gz iU 0)).Be 3 (gz iU 0);have E:=(((A.setCell (p:=Φ w) (Ae _) (gz iU 0)).setCell (p:=Δ w 1) (Ae _) (gz iU 0)).setCell (p:=Δ w 2) (Ae _) (gz iU 0)).setCell (p:=Δ w 3) (Ae _) (gz iU 0);refine Xh rfl w K (gz iU 5) rfl rfl ?_;exact⟨by rw[z.out],E⟩
structure Jm where
 s:Ms
 made:List Int
def Nu(j n:Nat):Nat:=n+((j+n-1)/8-j/8+1)+1
def DZ(j:Jm)(n:Nd):Jm×ni×Int:=
 if !CG n then(j,0,5)else
 match Ei j.s.s (DI n)with
 |none=>(j,0,6)
 |some (a,e)=>
  match KG ⟨j.s.pw,e⟩ (Nu (a/8) (Eh n).length) (CQ e.ws (a/8) (Eh n))with
  |(d,c)=>if c=0 then
     match J6 d a with
     |(f,b)=>if b=0 then(⟨f,j.made++[(a:Int)]⟩,Az a,0)else(⟨f,j.made++[(a:Int)]⟩,0,b)
   else(⟨d,j.made++[(a:Int)]⟩,0,c)
def Hg(j:Jm)(n:Nd)(b:nC)(a:ni)(e:Int):Jm×ni×Int:=
 if e≠0 then(j,0,e)else
 if KN n b a then DZ j (Ja n b a)else(j,0,5)
def Ld:Nat->Jm->List nC->ni->Jm×ni×Int
 |0,j,_,_=>(j,0,5)
 |c+1,j,l,a=>
  if l.length<=15 then DZ j ⟨l,a,[],[]⟩else
  match Ld c j (l.drop 16) a with
  |(d,e,b)=>Hg d ⟨l.take 15,0,[],[]⟩ (l.getD 15 0) e b
def JM(j:Jm)(x:Nd)(nM:List nC)(d:ni):Jm×ni×Int:=
 if oW x.pre nM=x.pre.length then
  match Ld (nM.length+1) j (nM.drop (oW x.pre nM+1)) d with
  |(a,c,b)=>Hg a x (nM.getD (oW x.pre nM) 0) c b
 else
  match DZ j {x with pre:=x.pre.drop (oW x.pre nM+1)}with
  |(a,c,b)=>
   if oW x.pre nM=nM.length then Hg a ⟨x.pre.take (oW x.pre nM),d,[],[]⟩ (x.pre.getD (oW x.pre nM) 0) c b else
   if b≠0 then(a,0,b)else
   if KN ⟨x.pre.take (oW x.pre nM),0,[],[]⟩ (x.pre.getD (oW x.pre nM) 0) c then
    match Ld (nM.length+1) a (nM.drop (oW x.pre nM+1)) d with
    |(g,e,f)=>Hg g (Ja ⟨x.pre.take (oW x.pre nM),0,[],[]⟩ (x.pre.getD (oW x.pre nM) 0) c) (nM.getD (oW x.pre nM) 0) e f
   else(a,0,5)
def Mc(q:Ms)(l:List Int):Ms:=l.foldl (λq a=>(DT q a).1) q
def KR:Ms->List Int->Int->Ms×Int
 |q,[],a=>(q,a)
 |q,b::l,a=>KR (DT q b).1 l (if a=0 then(DT q b).2 else a)
def EP(j:Jm)(e:Int)(f:Int)(b:ni)(d:List Int):Ms×Int:=
 if e≠0 then(Mc j.s j.made,e)else
 match KG j.s 3 (DD j.s.s.ws (f.toNat/8) b)with
 |(a,c)=>if c=0 then KR a d 0 else(Mc a j.made,c)
def Oi(q:Ms)(a:Pl)(n:ni):Ms×Int:=KG q 3 (DD q.s.ws (a.off.toNat/8+2) n)
def OG(q:Ms)(key:List nC)(c:ni):Ms×Int:=
 if 16<key.length then(q,3)else if c=0 then(q,2)else
 match FC q.s key with
 |none=>(q,5)
 |some (f,b)=>match Dw f b with
  |some a=>Oi q a c
  |none=>match f.getLast? with
   |none=>match Ld (b.length+1) ⟨q,[]⟩ b c with
    |(j,e,d)=>EP j d 72 e []
   |some a=>match JM ⟨q,[]⟩ a.nd b c with
    |(j,e,d)=>EP j d a.word e [a.off]
def Oj(j:Jm)(b:List Pl):Ms×Int:=
 match I9 b (b.length-1) [(b.getLast?.map (·.off)).getD 0]with
 |(0,c)=>EP j 0 72 0 c
 |(d+1,c)=>match b[d]?,b[d+1]? with
  |some a,some e=>match Kq a.nd.labels e.label with
   |some g=>if CG a.nd then match DZ j (UJ a.nd g)with
    |(i,k,f)=>EP i f a.word k (c++[a.off])
    else(j.s,5)
   |none=>(j.s,5)
  |_,_=>(j.s,5)
def Iq(q:Ms)(key:List nC):Ms×ni×Int:=
 if 16<key.length then(q,0,3)else
 match FC q.s key with
 |none=>(q,0,5)
 |some (f,g)=>match Dw f g with
  |none=>(q,0,7)
  |some a=>if a.nd.val=0 then(q,0,7)else
   match(if a.nd.kids.length=0 then Oj ⟨q,[]⟩ f else(q,6))with
   |(d,b)=>if b=6 then match Oi d a 0 with
    |(e,c)=>if c=0 then(e,a.nd.val,0)else(e,0,c)
    else if b=0 then(d,a.nd.val,0)else(d,0,b)
def jm0(j:Jb):Jm:=⟨⟨.up (-1),j.s⟩,j.made⟩
def TP(j:Jb)(n:Nd):DZ (jm0 j) n=(jm0 (GN j n).1,(GN j n).2):=by
 unfold DZ GN;cases CG n
 ·rfl
 ·simp only[Bool.not_true,Bool.false_eq_true,if_false,jm0];cases Ei j.s (DI n)with
  |none=>rfl
  |some a=>
   obtain⟨b,c⟩:=a;simp only[QU,oM,if_true];split<;>rfl
def TQ(j:Jb)(n:Nd)(b:nC)(a:ni)(e:Int):Hg (jm0 j) n b a e=(jm0 (Jn j n b a e).1,(Jn j n b a e).2):=by
 unfold Hg Jn;split
 ·rfl
 ·split
  ·exact TP _ _
  ·rfl
def V7:∀(f:Nat)(j:Jb)(l:List nC)(a:ni),Ld f (jm0 j) l a=(jm0 (OC f j l a).1,(OC f j l a).2)
 |0,j,l,a=>rfl
 |f+1,j,l,a=>by
  unfold Ld OC;split
  ·exact TP _ _
  ·rw[V7 f];exact TQ _ _ _ _ _
def Aim(j:Jb)(x:Nd)(nM:List nC)(a:ni):JM (jm0 j) x nM a=(jm0 (Uw j x nM a).1,(Uw j x nM a).2):=by
 unfold JM Uw;split
 ·rw[V7];exact TQ _ _ _ _ _
 ·rw[TP];generalize GN j {x with pre:=x.pre.drop (oW x.pre nM+1)}=b;obtain⟨d,e,c⟩:=b;simp only;split
  ·exact TQ _ _ _ _ _
  ·split
   ·rfl
   ·split
    ·rw[V7];exact TQ _ _ _ _ _
    ·rfl
def iC:∀(l:List Int)(s:St),Mc ⟨.up (-1),s⟩ l=⟨.up (-1),ET s l⟩
 |[],s=>rfl
 |a::l,s=>by
  show Mc (DT ⟨.up (-1),s⟩ a).1 l=_;rw[PU];exact iC l _
def aA:∀(l:List Int)(s:St)(e:Int),KR ⟨.up (-1),s⟩ l e=(⟨.up (-1),(LV s l e).1⟩,(LV s l e).2)
 |[],s,e=>rfl
 |a::l,s,e=>by
  unfold KR LV;rw[PU];exact aA l _ _
def QV(j:Jb)(e c:Int)(a:ni)(b:List Int):EP (jm0 j) e c a b=(⟨.up (-1),(Fb j e c a b).1⟩,(Fb j e c a b).2):=by
 unfold EP Fb;split
 ·simp only[jm0,iC]
 ·simp only[jm0,QU,if_true,aA]
def Xj(s:St)(a:Pl)(n:ni):Oi ⟨.up (-1),s⟩ a n=(⟨.up (-1),TG s a n⟩,0):=QU _ _ _
def y9(s:St)(key:List nC)(a:ni):OG ⟨.up (-1),s⟩ key a=(⟨.up (-1),(RZ s key a).1⟩,(RZ s key a).2):=by
 unfold OG RZ;split
 ·rfl
 ·split
  ·rfl
  ·cases FC s key with
   |none=>rfl
   |some wr=>
    obtain⟨b,d⟩:=wr;simp only;cases Dw b d with
    |some c=>exact Xj _ _ _
    |none=>
     simp only;cases b.getLast? with
     |none=>
      simp only;rw[show(⟨⟨.up (-1),s⟩,[]⟩:Jm)=jm0 ⟨s,[]⟩from rfl,V7];exact QV _ _ _ _ _
     |some c=>
      simp only;rw[show(⟨⟨.up (-1),s⟩,[]⟩:Jm)=jm0 ⟨s,[]⟩from rfl,Aim];exact QV _ _ _ _ _
def Ac8(j:Jb)(a:List Pl):Oj (jm0 j) a=(⟨.up (-1),(LW j a).1⟩,(LW j a).2):=by
 unfold Oj LW;generalize I9 a (a.length-1) [(a.getLast?.map (·.off)).getD 0]=d;obtain⟨b,g⟩:=d;cases b with
 |zero=>exact QV _ _ _ _ _
 |succ b=>
  simp only;cases a[b]? with
  |none=>rfl
  |some e=>
   cases a[b+1]? with
   |none=>rfl
   |some c=>
    simp only;cases Kq e.nd.labels c.label with
    |none=>rfl
    |some f=>
     simp only;split
     ·rw[TP];exact QV _ _ _ _ _
     ·rfl
def yA(s:St)(key:List nC):Iq ⟨.up (-1),s⟩ key=(⟨.up (-1),(Si s key).1⟩,(Si s key).2):=by
 unfold Iq Si;split
 ·rfl
 ·cases FC s key with
  |none=>rfl
  |some wr=>
   obtain⟨a,c⟩:=wr;simp only;cases Dw a c with
   |none=>rfl
   |some e=>
    simp only;split
    ·rfl
    ·split
     ·rw[show(⟨⟨.up (-1),s⟩,[]⟩:Jm)=jm0 ⟨s,[]⟩from rfl,Ac8];generalize LW ⟨s,[]⟩ a=b;obtain⟨f,d⟩:=b;simp only;split
      ·rw[Xj];rfl
      ·split<;>rfl
     ·simp only[if_true,Xj]
def Jr:Nat->List (Int×Int)->List MapEntry
 |_,[]=>[]
 |a,(o,b)::t=>{key:=gz iU o,val:=gz iU b,born:=a}::Jr (a+1) t
def iD(o v:Int):∀(l:List (Int×Int))(i:Nat),Jr i (l++[(o,v)])=Jr i l++[{key:=gz iU o,val:=gz iU v,born:=i+l.length}]
 |[],i=>rfl
 |(a,b)::t,i=>by
  simp only[BM,Jr,iD o v t (i+1),Bg];rw[show i+1+t.length=i+(t.length+1)by omega]
def iE:∀(l:List (Int×Int))(i:Nat),(Jr i l).length=l.length
 |[],_=>rfl
 |(_,_)::t,i=>by simp[Jr,iE t]
def uo(k:Int):∀(l:List (Int×Int))(i n:Nat),(∀p∈l,p.1≠k)->Instr.findNow (.int iU) (gz iU k) (Jr i l) n=jm jw
 |[],_,_,_=>rfl
 |(a,b)::t,i,n,h=>by
  have d:(k==a)=false:=by rw[beq_eq_false_iff_ne];exact λc=>h (a,b) (Bf ..) c.symm
  simp only[Jr,Instr.findNow,Instr.sameNow,if_true,d];exact uo k t (i+1) (n+1) (λp e=>h p (Bi _ e))
def iF(k v:Int)(c:List (Int×Int)):∀(a:List (Int×Int))(i n:Nat),(∀p∈a,p.1≠k)->Instr.findNow (.int iU) (gz iU k) (Jr i (a++(k,v)::c)) n=jm (jm (n+a.length,gz iU v))
 |[],_,_,_=>by simp[Jr,Instr.findNow,Instr.sameNow]
 |(b,d)::t,i,n,h=>by
  have f:(k==b)=false:=by rw[beq_eq_false_iff_ne];exact λe=>h (b,d) (Bf ..) e.symm
  simp only[BM,Jr,Instr.findNow,Instr.sameNow,if_true,f];rw[iF k v c t (i+1) (n+1) (λp g=>h p (Bi _ g))];simp only[Bg];rw[show n+1+t.length=n+(t.length+1)by omega]
def yB(k v c:Int)(b:List (Int×Int)):∀(a:List (Int×Int))(i:Nat),(Jr i (a++(k,v)::b)).modify a.length (λd=>{d with key:=gz iU k,val:=gz iU c})=Jr i (a++(k,c)::b)
 |[],i=>rfl
 |(e,f)::t,i=>by
  simp only[BM,Jr,Bg,List.modify_succ_cons];rw[yB k v c b t (i+1)]
def Nv(w:jT)(a:Nat)(l:List (Int×Int)):Prop:=w.heap[a]?=jm (.map (Jr 0 l).toArray l.length)
def Nv.lt{w:jT}{a:Nat}{l:List (Int×Int)}(h:Nv w a l):a<w:=(AL.1 h).1
def Nv.below{w w':jT}{a:Nat}{l:List (Int×Int)}(h:Nv w a l)(k:η w w'):Nv w' a l:=(k.block _ h.lt).trans h
section
variable{P:Program}{t:TypeId}
def uq{a:TypeId}(n:P.underlying t=jm (.map a a))(b:P.underlying a=jm (.int iU))(o:∀W,(zeroValue a).run P W=.ok (gz iU 0) W)(W:jT)(c:Nat)(l:List (Int×Int))(k:Int)(h:Nv W c l)(m:∀p∈l,p.1≠k):
 (Instr.lookup t (.map (jm c)) (gz iU k) jS).run P W=.ok (gz iU 0) W:=by
 have e:=run_underlying (P:=P) n;have f:=run_underlying (P:=P) b;have g:=λd w=>KQ (P:=P) b d 9999 iU k w
 have i:=Oe (P:=P) h;have j:=uo k l 0 0 m;simp[Instr.lookup,e,f,g,i,Instr.findKey,j,o,Result.andThen]
def UT{c e:TypeId}(i:P.underlying t=jm (.map c e))(f:P.underlying c=jm (.int iU))(W:jT)(b:Nat)(a d:List (Int×Int))(k v:Int)(h:Nv W b (a++(k,v)::d))(g:∀p∈a,p.1≠k):
 (Instr.lookup t (.map (jm b)) (gz iU k) jS).run P W=.ok (gz iU v) W:=
 Ql i f W b _ _ k _ _ h (by simpa using iF k v d a 0 0 g)
def Ac9{b c:TypeId}(f:P.underlying t=jm (.map b c))(d:P.underlying b=jm (.int iU))(W:jT)(a:Nat)(l:List (Int×Int))(k v:Int)(h:Nv W a l)(e:∀p∈l,p.1≠k):
 (Instr.mapUpdate t (.map (jm a)) (gz iU k) (gz iU v)).run P W=.ok () (EU W a (Jr 0 (l++[(k,v)])).toArray (l++[(k,v)]).length):=by
 rw[dH f d W a _ _ k _ h (by simpa using uo k l 0 0 e),iD];simp
def Arf{g l:TypeId}(C:P.underlying t=jm (.map g l))(f:P.underlying g=jm (.int iU))(W:jT)(d:Nat)(a b:List (Int×Int))(k v c:Int)(h:Nv W d (a++(k,v)::b))(B:∀p∈a,p.1≠k):
 (Instr.mapUpdate t (.map (jm d)) (gz iU k) (gz iU c)).run P W=.ok () (EU W d (Jr 0 (a++(k,c)::b)).toArray (a++(k,c)::b).length):=by
 have m:=run_underlying (P:=P) C;have n:=run_underlying (P:=P) f;have q:=λw=>KQ (P:=P) f jS 9999 iU k w
 have r:=Oe (P:=P) h;have s:=λo=>Xc (P:=P) o h
 have e:=iF k v b a 0 0 B;have A:=yB k v c b a 0;have x:(((Jr 0 (a++(k,v)::b)).toArray[a.length]?).map (·.key)).getD (gz iU k)=gz iU k:=by
  have:∀(a:List (Int×Int))(i:Nat),(((Jr i (a++(k,v)::b))[a.length]?).map (·.key)).getD (gz iU k)=gz iU k:=by
   intro a;induction a with
   |nil=>intro i;rfl
   |cons p t D=>intro i;obtain⟨E,F⟩:=p;simpa[Jr]using D (i+1)
  simpa using this a 0
 have y:∀W,(Instr.keyThatStays (gz iU k) (gz iU k)).run P W=.ok (gz iU k) W:=λW=>by
  have hb:Instr.sameBits 10000 (gz iU k) (gz iU k)=true:=by show Instr.sameBits (9999+1) _ _=jO;simp[Instr.sameBits]
  simp[Instr.keyThatStays,hb]
 have z:(a++(k,c)::b).length=(a++(k,v)::b).length:=by simp
 have u:(Jr 0 (a++(k,v)::b)).toArray.modify a.length (λj=>{j with key:=gz iU k,val:=gz iU c})=(Jr 0 (a++(k,c)::b)).toArray:=by
  rw[<-A];simp
 rw[z];simp only[Du]at e;simp only[Instr.mapUpdate,Sem.run_bind,m,Result.andThen_ok,r,q,Instr.findKey,n,e,Sem.run_pure,x,y,s,u,EU]
end
def Uz(f:Nat->Nat)(i j k:Nat):Nat:=if k=i then f j else if k=j then f i else f k
def GU(f:Nat->Nat)(n:Nat):Prop:=∀a,0<a->a<n->f ((a-1)/2)<=f a
def O4(f:Nat->Nat)(i n:Nat):Prop:=
 (∀a,0<a->a<n->(a-1)/2≠i->f ((a-1)/2)<=f a)/\(0<i->∀a,0<a->a<n->(a-1)/2=i->f ((i-1)/2)<=f a)
def TR(f:Nat->Nat)(i n:Nat):Prop:=
 (∀a,0<a->a<n->a≠i->f ((a-1)/2)<=f a)/\(0<i->∀a,0<a->a<n->(a-1)/2=i->f ((i-1)/2)<=f a)
def iG{f:Nat->Nat}{n:Nat}(h:GU f n):∀a,a<n->f 0<=f a:=by
 intro a;induction a using Nat.strongRecOn with
 |ind a d=>
  intro c;by_cases b:a=0
  ·subst b;exact Ae _
  ·exact AZ (d ((a-1)/2) O O) (h a O c)
def WB{f:Nat->Nat}{n:Nat}(h:GU f (n+1)):O4 (Uz f 0 n) 0 n:=by
 refine⟨λc a d b=>?_,λh=>absurd h O⟩;have:=h c a O;unfold Uz;rw[lg b,lg O,lg O,lg O];exact this
def KT{f:Nat->Nat}{i j n:Nat}(h:O4 f i n)(o:0<j)(p:j<n)(k:(j-1)/2=i)(r:∀a,0<a->a<n->(a-1)/2=i->f j<=f a)(q:f j<f i):O4 (Uz f i j) j n:=by
 obtain⟨m,hb⟩:=h;have s:i<j:=O;refine⟨λa b d l=>?_,λ_ a b d l=>?_⟩
 ·unfold Uz;by_cases e:a=i
  ·subst e;rw[lg O,lg O,kX rfl];exact hb b j o p k
  ·by_cases g:a=j
   ·subst g;rw[kX k,lg O,kX rfl];exact Lh q
   ·by_cases c:(a-1)/2=i
    ·rw[kX c,lg e,lg g];exact r a b d c
    ·rw[lg c,lg l,lg e,lg g];exact m a b d c
 ·unfold Uz;rw[k,kX rfl,lg O,lg O];have:=m a b d O;rw[l]at this;exact this
def Jh{f:Nat->Nat}{i n:Nat}(h:O4 f i n)(e:∀a,0<a->a<n->(a-1)/2=i->f i<=f a):GU f n:=by
 intro a b d;by_cases c:(a-1)/2=i
 ·rw[c];exact e a b d c
 ·exact h.1 a b d c
def aC{f:Nat->Nat}{i j n:Nat}(h:TR f j n)(q:0<j)(t:j<n)(m:(j-1)/2=i)(r:f j<f i):TR (Uz f i j) i n:=by
 obtain⟨k,hb⟩:=h;have s:i<j:=O;refine⟨λb c d e=>?_,λp b c d e=>?_⟩
 ·unfold Uz;by_cases a:b=j
  ·subst a;rw[kX m,lg O,kX rfl];exact Lh r
  ·by_cases g:(b-1)/2=i
   ·rw[kX g,lg e,lg a];have:=k b c d a;rw[g]at this;omega
   ·by_cases l:(b-1)/2=j
    ·rw[lg g,kX l,lg e,lg a];have:=hb q b c d l;rw[m]at this;exact this
    ·rw[lg g,lg l,lg e,lg a];exact k b c d a
 ·unfold Uz;have o:=k i p O O;by_cases a:b=j
  ·subst a;rw[lg O,lg O,lg O,kX rfl];exact o
  ·rw[lg O,lg O,lg O,lg a];have:=k b c d a;rw[e]at this;exact AZ o this
def TS{f:Nat->Nat}{j n:Nat}(h:TR f j n)(d:0<j->f ((j-1)/2)<=f j):GU f n:=by
 intro b a e;by_cases c:b=j
 ·subst c;exact d a
 ·exact h.1 b a e c
section
variable{α:Type}
def Gl(key:α->Nat)(l:List α)(k:Nat):Nat:=(l[k]?.map key).getD 0
def ML(l:List α)(i j:Nat):List α:=match l[i]?,l[j]? with
 |some a,some b=>(l.set i b).set j a
 |_,_=>l
def Yh(l:List α)(i j:Nat)(hi:i<l.length)(a:j<l.length):ML l i j=(l.set i l[j]).set j l[i]:=by
 simp[ML,Ag hi,Ag a]
def TT(l:List α)(i j:Nat):(ML l i j).length=l.length:=by
 unfold ML;split<;>simp
def Sz(l:List α)(i j:Nat)(hi:i<l.length)(c:j<l.length)(k:Nat):(ML l i j)[k]?=if k=i then l[j]? else if k=j then l[i]? else l[k]?:=by
 rw[Yh l i j hi c,H9,H9];simp only[Di];by_cases b:k=i
 ·subst b;by_cases a:j=k
  ·subst a;simp[c]
  ·rw[lg a];simp[hi,c]
 ·by_cases a:k=j
  ·subst a;simp[hi,c,b]
  ·rw[lg (λd=>a d.symm),lg (λd=>b d.symm),lg b,lg a]
def S9(key:α->Nat)(l:List α)(i j:Nat)(hi:i<l.length)(c:j<l.length):Gl key (ML l i j)=Uz (Gl key l) i j:=by
 funext k;unfold Gl Uz;rw[Sz l i j hi c];by_cases a:k=i
 ·rw[kX a,kX a]
 ·rw[lg a,lg a];by_cases b:k=j
  ·rw[kX b,kX b]
  ·rw[lg b,lg b]
def Qr(l:List α)(i j:Nat):(ML l i j).Perm l:=by
 by_cases a:i<l.length
 ·by_cases b:j<l.length
  ·rw[Yh l i j a b];rcases Nat.lt_trichotomy i j with h|h|h
   ·exact Alb a b
   ·subst h;simp
   ·exact Alb a b
  ·simp[ML,FO (Aqf b)]
 ·simp[ML,FO (Aqf a)]
end
def iv(k:Nat):Value:=gz iU (k:Int)
def Ada(A:Option Addr)(n c:Nat)(w:jT)(_:n<=1000000):Calls prog 245 #[fM A n c] w λa w'=>a=iO n/\w=w':=by
 go_in;go_wp2;go_ret;exact⟨rfl,rfl⟩
def Agg(g n c i j:Nat)(l:List Nat)(w:jT)(hi:i<n)(o:j<n)(r:n<=1000000)(h:Rd w (jm (Φ g)) n (l.map iv)):
 Calls prog 288 #[fM (jm (Φ g)) n c,i,j] w λa w'=>a=iO (iw (decide (Gl id l i<Gl id l j)))/\Dr w w':=by
 have q:l.length=n:=by simpa using h.1
 obtain⟨p,s,a,hb,b⟩:=h.2 O;injection a with a
 injection a with k m
 subst k m;have e:=b i hi;have f:=b j o;rw[Du,CP,Ag (show i<l.length by omega)]at e;rw[Du,CP,Ag (show j<l.length by omega)]at f;have d:Hid (decide (Gl id l i<Gl id l j)=decide (l[i]<l[j])):=Ac (by
  simp only[Gl,Ag (show i<l.length by omega),Ag (show j<l.length by omega),EX,id,RV])
 rw[d.out];simp only[EX,iv]at e f;generalize l[i]=t at*;generalize l[j]=u at*;clear h b d;go_in;go_wp2_with fail;go_quiet(fail);go_wp2;go_ret;exact⟨rfl,_,rfl⟩
def Agh(g n c i j f:Nat)(l:List Nat)(w:jT)(hi:i<n)(b:j<n)(C:n<=1000000)(h:w.ownsRow f 3 1 (fM (jm (Φ g)) n c) n (l.map iv)):
 Calls prog 291 #[fM (jm (Φ g)) n c,i,j] w λa w'=>a=iO (iJ #[])/\
  w'.ownsRow f 3 1 (fM (jm (Φ g)) n c) n ((ML l i j).map iv)/\Touch (·=g) w w':=by
 have B:l.length=n:=by simpa using h.1
 obtain⟨_,s⟩:=Dk h;obtain⟨e,D,a,hb,k⟩:=s.2 O;injection a with a
 injection a with t v
 subst t v;have q:=k i hi;have r:=k j b;rw[Du,CP,Ag (show i<l.length by omega)]at q;rw[Du,CP,Ag (show j<l.length by omega)]at r;simp only[EX,iv]at q r;have f1:=(XX h hi).2;have m:Hid (∀W,Dr w W->((W.setCell (Δ g i) (iv l[j])).setCell (Δ g j) (iv l[i])).ownsRow f 3 1 (fM (jm (Φ g)) n c) n ((ML l i j).map iv)/\Touch (·=g) w ((W.setCell (Δ g i) (iv l[j])).setCell (Δ g j) (iv l[i]))):=Ac (λW d=>by
  refine⟨?_,(((mD (F:=λe=>e=g) (d.below _)).setCell (p:=Δ g i) (.inl rfl) _).setCell (p:=Δ g j) (.inl rfl) _)⟩;rw[Yh l i j O O,O9,O9];exact QS (QS (own_below h (d.below _)) hi) b)
 have o:Hid (∀W,Dr w W->((W.setCell (Δ g j) (iv l[i])).setCell (Δ g i) (iv l[j])).ownsRow f 3 1 (fM (jm (Φ g)) n c) n ((ML l i j).map iv)/\Touch (·=g) w ((W.setCell (Δ g j) (iv l[i])).setCell (Δ g i) (iv l[j]))):=Ac (λW d=>by
  refine⟨?_,(((mD (F:=λe=>e=g) (d.below _)).setCell (p:=Δ g j) (.inl rfl) _).setCell (p:=Δ g i) (.inl rfl) _)⟩;have a:(l.set i l[j]).set j l[i]=(l.set j l[i]).set i l[j]:=by
   by_cases a:i=j
   ·subst a;rfl
   ·exact List.set_comm _ _ a
  rw[Yh l i j O O,a,O9,O9];exact QS (QS (own_below h (d.below _)) b) hi)
 obtain⟨⟨E,x⟩,z⟩:=XX (QS (u:=iv l[j]) h hi) b;obtain⟨⟨G,y⟩,A⟩:=XX (QS (u:=iv l[i]) h b) hi;simp only[iv]at m o x y z A;generalize l[i]=H at*;generalize l[j]=I at*;clear h k s;go_in;go_wp2_with fail;go_region
 all_goals trace_state
 all_goals(go_wp2)
 all_goals(go_end0)
 all_goals(first
  |exact⟨rfl,m _ (show Dr w w.drew from⟨1,rfl⟩)⟩
  |exact⟨rfl,o _ (show Dr w w.drew from⟨1,rfl⟩)⟩)
def Tryz.Ay3:IK prog 370 3 (gz iU 0) 1 8:=⟨underlying370,by kernel_rfl,rfl⟩
structure Fe(w:jT)(B o g c:Nat)(l:List Nat):Prop where
 box:Cm w o 370 [fM (jm (Φ g)) l.length c]
 row:w.ownsRow B 3 1 (fM (jm (Φ g)) l.length c) l.length (l.map iv)
 ne:o≠g
 hB:B<=o
 len:l.length<=1000
def Fe.glt{w:jT}{B o g c:Nat}{l:List Nat}(h:Fe w B o g c l):B<=g/\g<w:=by
 rcases h.row.2 with⟨b,_⟩|⟨i,e,f,a,hB,d,_⟩
 ·cases b
 ·simp only[Value.slice.injEq,Option.some.injEq,Addr.mk.injEq,and_true,true_and]at a;obtain⟨rfl,rfl⟩:=a;exact⟨hB,(AL.1 d).1⟩
def Fe.touch{w w':jT}{B o g c:Nat}{l:List Nat}{G:Nat->Prop}(h:Fe w B o g c l)(t:Touch G w w')(h1:¬G o)(h2:¬G g):Fe w' B o g c l:=by
 refine⟨h.box.touch t h1,Ie h.row t (λa hb=>?_),h.ne,h.hB,h.len⟩;have:g=a:=by simpa[AY]using hb
 subst this;exact h2
def Fe.below{w w':jT}{B o g c:Nat}{l:List Nat}(h:Fe w B o g c l)(t:η w w'):Fe w' B o g c l:=
 h.touch (mD (F:=λ_=>False) t) id id
def assert_int(x:Int)(w:jT):(Instr.typeAssert (.iface 3 (gz iU x)) 20 3 jO).run prog w=.ok (iJ #[x,jO]) w:=by kernel_rfl
def Arh{w:jT}{B o g c:Nat}{l:List Nat}(s:Nat)(h:Fe w B o g c l)(J:l.length<1000):
 Calls prog 290 #[AB o,.iface 3 (gz iU (s:Int))] w λb w'=>b=iO (iJ #[])/\
  ∃q C,Fe w' B o q C (l++[s])/\(q=g\/w<=q)/\Touch (λd=>d=o\/d=g) w w':=by
 have A:=h.box.c0;have f0:=h.box.frozen 0;have t:=h.box.lt;have y:=h.row;have D:=h.hB;have E:B<=w:=O;have f:=Ac h;obtain⟨n,j⟩:∃n,l.length=n:=⟨_,rfl⟩;rw[j]at y A J;clear h;have L:=assert_int (s:Int);go_in;go_wp2_with(at_builtin;go_loud(refine BU rfl (.tmp 15) (.tmp 17) 370 rfl Tryz.Ay3 w B (fM (jm (Φ g)) n c) n (l.map iv) [iv s] rfl y rfl w 1 rfl rfl rfl U (by intro M z;simp at z;subst z;rfl) O U E ?_;intro e m k F r i v;have N:=(BQ (w:=w) (a:=Φ o) (i.2 o t (λb=>f.ne (by simpa[AY]using b)))).trans A;have f2:=(Asq (w:=w) (a:=Φ o) (i.2 o t (λb=>f.ne (by simpa[AY]using b)))).trans f0));go_end0;have x:¬o=e:=λb=>by
  rcases v with h|h
  ·exact f.ne (by rw[b];simpa[AY]using h.symm)
  ·omega
 have G:Touch (λd=>d=o\/d=g) w (k.setCell (Φ o) (fM (jm (Φ e)) (n+1) m)):=by
  refine Touch.setCell (w:=w) (w':=k) ⟨r.os,r.tape,r.output,i.1,λK I j=>i.2 K I (λb=>j (.inr (by simpa[AY]using b)))⟩ (p:=Φ o) (.inl (.inl rfl)) _
 have H:Cm k o 370 [fM (jm (Φ g)) l.length c]:=(i.2 o t (λb=>f.ne (by simpa[AY]using b))).trans f.box;refine⟨rfl,e,m,⟨?_,?_,x,D,by simp;omega⟩,?_,G⟩
 ·have:=H.Be 0 (fM (jm (Φ e)) (n+1) m);rw[AO,j];exact this
 ·have u:=F;rw[show l.map iv++[iv s]=(l++[s]).map iv by simp]at u;rw[AO,j];refine Ie u ((Touch.refl (·=o) k).setCell (p:=Φ o) (.inl rfl) _) (λd hb b=>?_);have:e=d:=by simpa[AY]using hb
  exact x (by rw[this,b])
 ·rcases v with h|h
  ·left;have:g=e:=by simpa[AY]using h
   exact this.symm
  ·exact .inr h
def Avd{w:jT}{B o g c:Nat}{l:List Nat}(s:Nat)(h:Fe w B o g c (l++[s])):
 Calls prog 289 #[AB o] w λb w'=>b=iO (.iface 3 (gz iU (s:Int)))/\Fe w' B o g c l/\Touch (λa=>a=o\/a=g) w w':=by
 have t:=h.len;rw[AO,EO]at t;have v:=h.box.cell 0;have f0:=h.box.frozen 0;have j:=h.row;have x:=(Dk j).2.2 Θ;have r:=(Dk j).1;rw[AO,EO]at r;obtain⟨a,L,b,hb,q⟩:=x;injection b with b
 injection b with z A
 subst z A;have i:=q l.length Θ;rw[Du,CP,Ez (Ae _),Pv]at i;simp only[Af,EX,iv]at i;simp only[Af,AO,EO]at v;obtain⟨n,e⟩:∃n,l.length=n:=⟨_,rfl⟩;rw[e]at v i r;have d:=Ac h;have f:=Ac e;rw[e]at t;clear h q j e;go_in;go_wp2;go_ret;refine⟨rfl,⟨?_,?_,d.ne,d.hB,by rw[f.out];omega⟩,((Touch.refl (λa=>a=o\/a=g) w).setCell (p:=Φ o) (.inl (.inl rfl)) _)⟩
 ·have:=d.box.Be 0 (fM (jm (Φ g)) n c);rw[f.out];exact this
 ·have D:=d.row;have m:w.ownsRow B 3 1 (fM (jm (Φ g)) l.length c) l.length (l.map iv):=by
   refine⟨by simp,?_⟩;rcases D.2 with⟨C,_⟩|⟨K,J,y,k,E,H,I,F,G,u⟩
   ·cases C
   ·simp only[AO,EO]at k I u;simp only[Value.slice.injEq,Option.some.injEq,Addr.mk.injEq,and_true,true_and]at k;obtain⟨rfl,rfl⟩:=k;refine .inr ⟨g,c,y,rfl,E,H,O,F,G,?_⟩;have:=congrArg (List.take l.length) u;rw[List.take_take,EI O]at this;simpa using this
  rw[f.out]at m⊢;refine Ie m ((Touch.refl (·=o) w).setCell (p:=Φ o) (.inl rfl) _) (λa hb b=>?_);have:g=a:=by simpa[AY]using hb
  exact d.ne (by rw[this,b])
def Aio(f:Nat)(a:Addr)(w:jT):(method (f+1) 362 (iL (jm a)) "Push").run prog w=.ok (290,iL (jm a)) w:=by kernel_rfl
def Amx(f:Nat)(a:Addr)(w:jT):(method (f+1) 362 (iL (jm a)) "Pop").run prog w=.ok (289,iL (jm a)) w:=by kernel_rfl
def Adb{P:Program}(t:TypeId)(a:Addr)(x y:String)(w:jT):(Builtin.ssaWrapNilChk_ #[t] t #[iL (jm a),strVal x,strVal y]).run P w=.ok (iL (jm a)) w:=rfl
def iH{P:Program}{t e:TypeId}{j:String}{F:FuncId}{d:TypeDesc}(p:P.underlying t=jm (.pointer e))(_hd:P.underlying e=jm d)
 (b:(P.info? t).map (λi=>(i.methods.find? (·.name==j)).map (λm=>(m.path,m.func)))=jm (jm (#[],jm (F,jS))))(f:Nat)(a:Addr)(w:jT)(v:ku)(n:(loadVar e a).run P w=.ok v w):
 (method (f+1) t (iL (jm a)) j).run P w=.ok (F,v) w:=by
 cases g:P.info? t with
 |none=>simp[g]at b
 |some i=>
  rw[g]at b;simp only[EX,Option.some.injEq]at b;cases c:i.methods.find? (·.name==j)with
  |none=>simp[c]at b
  |some m=>
   rw[c]at b;simp only[EX,Option.some.injEq,Prod.mk.injEq]at b;obtain⟨k,l⟩:=b;have o:=run_underlying (P:=P) p;simp[method,typeInfo,g,c,k,l,follow,receiverAt,o,Place.get,Adb,asAddr,Sem.run_bind,n]
def iI(o:Nat)(v:ku)(w:jT)(h:w.cell? (Φ o)=jm v):(loadVar 370 (Φ o)).run prog w=.ok v w:=by
 have a:=run_underlying (P:=prog) underlying370;simp[loadVar,isAgg,a,Sem.run_bind,h]
def oQ(f o:Nat)(v:ku)(w:jT)(h:w.cell? (Φ o)=jm v):(method (f+1) 362 (AB o) "Less").run prog w=.ok (288,v) w:=
 iH underlying362 underlying370 Γ f _ w v (iI o v w h)
def Amy(f o:Nat)(v:ku)(w:jT)(h:w.cell? (Φ o)=jm v):(method (f+1) 362 (AB o) "Len").run prog w=.ok (245,v) w:=
 iH underlying362 underlying370 Γ f _ w v (iI o v w h)
def oU(f o:Nat)(v:ku)(w:jT)(h:w.cell? (Φ o)=jm v):(method (f+1) 362 (AB o) "Swap").run prog w=.ok (291,v) w:=
 iH underlying362 underlying370 Γ f _ w v (iI o v w h)
def Fe.swapped{w w':jT}{B o g c n i j:Nat}{l:List Nat}(h:Fe w B o g c l)(b:l.length=n)(d:w'.ownsRow B 3 1 (fM (jm (Φ g)) n c) n ((ML l i j).map iv))(t:Touch (·=g) w w'):Fe w' B o g c (ML l i j):=by
 have a:=TT l i j;have hb:=h.box.touch t h.ne;refine⟨by rw[a];exact hb,by rw[a,b];exact d,h.ne,h.hB,by rw[a];exact h.len⟩
def Ave{w:jT}{B o g c:Nat}{l:List Nat}(j:Nat)(h:Fe w B o g c l)(A:j<l.length)(y:TR (Gl id l) j l.length):
 Calls prog 196 #[.iface 362 (AB o),j] w λq w'=>q=iO (iJ #[])/\
  ∃a,a.Perm l/\GU (Gl id a) l.length/\Fe w' B o g c a/\Touch (λb=>b=o\/b=g) w w':=by
 obtain⟨n,C⟩:∃n,l.length=n:=⟨_,rfl⟩;have W:=h.len;rw[C]at A y W⊢;go_in;go_wp2_with fail;go_loopw [1](λd wr=>∃e a,e<n/\d=gz iU (e:Nat)/\a.Perm l/\TR (Gl id a) e n/\Fe wr B o g c a/\Touch (λb=>b=o\/b=g) w wr)(λd _=>(intOf d).toNat)
 case atStart=>exact⟨j,l,A,rfl,List.Perm.refl _,y,h,mP⟩
 case round=>
  obtain⟨e,a,r,rfl,t,z,D,H⟩:=hrel;clear h A y;have R:a.length=n:=by rw[t.length_eq];exact C
  by_cases V:e=0
  ·subst V;go_wp2;go_end0;exact⟨rfl,a,t,TS z (λh=>absurd h O),D,H⟩
  ·obtain⟨N,p,M,L,f⟩:=lM z D t H R;clear z D t H R C;obtain⟨d,Q⟩:∃d,(e-1)/2=d:=⟨_,rfl⟩;have ab:d<e:=O;have aa:((e:Int) -1)/2=(d:Int):=O;have t1:((d:Int)==(e:Int))=false:=ζ O;have J:=p.box.cell 0;simp only[Af,f.out]at J;have E:=(Dk p.row).2;rw[f.out]at E;have k:=Ac (Agg g n c e d a wr r O O E);have Y:=λv=>oQ v o _ wr J
   clear E;by_cases i:Gl id a e<Gl id a d
   ·rw[decide_eq_true i]at k;have u:=Ac i;clear i;go_wp2_with(first|(refine k.out.mono ?_;rintro q I⟨rfl,m⟩;have s:=p.below (m.below _);have K:=s.box.cell 0;simp only[Af,f.out]at K;have Z:=λv=>oU v o _ I K;have G:=s.row;rw[f.out]at G;have X:=Ac (Agh g n c d e B a I O r O G);have T:=Ac s;clear Y J s G k)|(refine X.mono ?_;rintro q ac⟨rfl,P,x⟩;have U:=Ac (T.swapped f P x);have S:=Ac ((L.trans (mD (F:=λb=>b=o\/b=g) (m.below _)) (λb=>.inl)).trans (x.mono (λb=>.inr)) (λb=>.inl));clear Z K P x));go_roundw
    case rel=>
     refine⟨d,ML a d e,O,rfl,(Qr _ _ _).trans M,?_,U,S⟩;rw[S9 id a d e (by rw[f.out];omega) (by rw[f.out];exact r)];exact aC N O r Q u
    case measure=>simp[intOf];omega
   ·rw[decide_eq_false i]at k;have u:=Ac i;clear i;go_wp2_with(refine k.out.mono ?_;rintro q I⟨rfl,m⟩);go_end0;exact⟨rfl,a,M,TS N (λ_=>by have:=u.out;rw[<-Q]at this;omega),p.below (m.below _),L.trans (mD (F:=λb=>b=o\/b=g) (m.below _)) (λb=>.inl)⟩
section
variable{w:jT}{B o g c N:Nat}{l:List Nat}
def Fe.yC(h:Fe w B o g c l)(b:l.length=N):∀a,(method (a+1) 362 (AB o) "Less").run prog w=.ok (288,fM (jm (Φ g)) N c) w:=λa=>
 oQ a o _ w (by have:=h.box.cell 0;simpa only[Af,b]using this)
def Fe.Ay4(h:Fe w B o g c l)(b:l.length=N):∀a,(method (a+1) 362 (AB o) "Len").run prog w=.ok (245,fM (jm (Φ g)) N c) w:=λa=>
 Amy a o _ w (by have:=h.box.cell 0;simpa only[Af,b]using this)
def Fe.Agi(h:Fe w B o g c l)(b:l.length=N):∀a,(method (a+1) 362 (AB o) "Swap").run prog w=.ok (291,fM (jm (Φ g)) N c) w:=λa=>
 oU a o _ w (by have:=h.box.cell 0;simpa only[Af,b]using this)
def Fe.less(h:Fe w B o g c l)(e:l.length=N)(i j:Nat)(hi:i<N)(d:j<N)(b:Bool)(hb:decide (Gl id l i<Gl id l j)=b):
 Calls prog 288 #[fM (jm (Φ g)) N c,i,j] w λa w'=>a=iO b/\Dr w w':=by
 subst e hb;have:=h.len;exact Agg g l.length c i j l w hi d O (Dk h.row).2
def Fe.swap(h:Fe w B o g c l)(k:l.length=N)(i j:Nat)(hi:i<N)(f:j<N):
 Calls prog 291 #[fM (jm (Φ g)) N c,i,j] w λb w'=>b=iO (iJ #[])/\Fe w' B o g c (ML l i j)/\Touch (λa=>a=o\/a=g) w w':=by
 subst k;have:=h.len;refine(Agh g l.length c i j B l w hi f O h.row).mono ?_;rintro b w'⟨rfl,e,d⟩;exact⟨rfl,h.swapped rfl e d,d.mono (λa=>.inr)⟩
def Amz(n:Nat)(h:Fe w B o g c l)(ad:l.length=N)(aD:n<N)(ae:O4 (Gl id l) 0 n):
 Calls prog 229 #[.iface 362 (AB o),gz iU 0,gz iU (n:Int)] w λv w'=>(∃b,v=iO (iw b))/\
  ∃e,e.Perm l/\GU (Gl id e) n/\(∀a,n<=a->e[a]?=l[a]?)/\Fe w' B o g c e/\Touch (λb=>b=o\/b=g) w w':=by
 have ap:=h.len;rw[ad]at ap;go_in;go_wp2_with fail;go_loopw [7](λd wr=>∃a e,(a=0\/a<n)/\d=gz iU (a:Nat)/\e.Perm l/\O4 (Gl id e) a n/\(∀a,n<=a->e[a]?=l[a]?)/\Fe wr B o g c e/\Touch (λb=>b=o\/b=g) w wr)(λd _=>n-(intOf d).toNat)
 case atStart=>exact⟨0,l,.inl rfl,rfl,List.Perm.refl _,ae,λ_ _=>rfl,h,mP⟩
 case round=>
  obtain⟨d,e,az,rfl,u,ah,k,am,an⟩:=hrel;have al:e.length=N:=by rw[u.length_eq];exact ad
  obtain⟨L,A,K,ab,J,i⟩:=lN ah am u an k al;have aE:d<=n:=O;clear h ae ah am u an k al ad;by_cases av:n<=2*d+1
  ·have t1:=dT ((n:Int)<=2*(d:Int)+1);go_wp2;go_ret;exact⟨⟨_,rfl⟩,e,K,Jh L (λa y k u=>O),J,A,ab⟩
  ·have t1:=dF ((n:Int)<=2*(d:Int)+1);obtain⟨f,x⟩:∃f,2*d+1=f:=⟨_,rfl⟩;obtain⟨j,M⟩:∃j,f+1=j:=⟨_,rfl⟩;have ar:2*(d:Int)+1=(f:Int):=O;have au:(f:Int)+1=(j:Int):=O;have t4:=dF ((n:Int)<=(f:Int));have t5:=dF ((f:Int)<0);have P:Hid (2*d+1=f):=Ac x;have Q:Hid (2*d+2=j):=Ac O;have aG:f<n:=O;clear t1 x M;by_cases aw:j<n
   ·have t2:=dT ((j:Int)<(n:Int));by_cases ac:Gl id e j<Gl id e f
    ·have R:=Ac ac;clear ac;have Y:=A.yC i;go_wp2_with fail;refine(A.less i j f O O jO (decide_eq_true R.out)).mono ?_;rintro v aq⟨rfl,W⟩;have E:=A.below (W.below _);have G:=ab.trans (mD (F:=λb=>b=o\/b=g) (W.below _)) (λb=>.inl);have p:=Ac E;have C:=Ac G;clear E G;have H:=p.out.yC i;have x:j<n:=O;have M:(j-1)/2=d:=Ψ P.out Q.out;have z:Hid (∀a,0<a->a<n->(a-1)/2=d->Gl id e j<=Gl id e a):=Ac (λa y k u=>by
      have X:a=f\/a=j:=Ψ P.out Q.out;rcases X with rfl|rfl
      ·have:=R.out;omega
      ·exact Ae _)
     by_cases s:Gl id e j<Gl id e d
     ·have m:=Ac s;clear s;clear Y;go_wp2_with(first|(refine(p.out.less i j d O O jO (decide_eq_true m.out)).mono ?_;rintro v aa⟨rfl,q⟩;have r:=p.out.below (q.below _);have t:=C.trans (mD (F:=λb=>b=o\/b=g) (q.below _)) (λb=>.inl);have Z:=r.Agi i;have V:=Ac r;have S:=Ac t;clear H r t)|(refine(V.swap i d j O O).mono ?_;rintro v ao⟨rfl,D,I⟩;have U:=Ac D;have T:=Ac (S.trans I (λb=>.inl));clear Z D I));go_roundw
      case rel=>
       refine⟨j,ML e d j,.inr x,rfl,(Qr _ _ _).trans K,?_,λa k=>?_,U,T⟩
       ·rw[S9 id e d j (by rw[i.out];omega) (by rw[i.out];omega)];exact KT L O x M z m
       ·rw[Sz e d j (by rw[i.out];omega) (by rw[i.out];omega),lg O,lg O];exact J a k
      case measure=>simp[intOf];omega
     ·have m:=Ac s;clear s;clear Y;go_wp2_with(refine(p.out.less i j d O O jS (decide_eq_false m.out)).mono ?_;rintro v aa⟨rfl,q⟩;have r:=p.out.below (q.below _);have t:=C.trans (mD (F:=λb=>b=o\/b=g) (q.below _)) (λb=>.inl);clear H);go_ret;exact⟨⟨_,rfl⟩,e,K,Jh L (λa y k u=>Ψ (z a y k u) m.out),J,r,t⟩
    ·have R:=Ac ac;clear ac;have Y:=A.yC i;go_wp2_with fail;refine(A.less i j f O O jS (decide_eq_false R.out)).mono ?_;rintro v aq⟨rfl,W⟩;have E:=A.below (W.below _);have G:=ab.trans (mD (F:=λb=>b=o\/b=g) (W.below _)) (λb=>.inl);have p:=Ac E;have C:=Ac G;clear E G;have H:=p.out.yC i;have x:f<n:=O;have M:(f-1)/2=d:=Ψ P.out Q.out;have z:Hid (∀a,0<a->a<n->(a-1)/2=d->Gl id e f<=Gl id e a):=Ac (λa y k u=>by
      have X:a=f\/a=j:=Ψ P.out Q.out;rcases X with rfl|rfl
      ·exact Ae _
      ·have:=R.out;omega)
     by_cases s:Gl id e f<Gl id e d
     ·have m:=Ac s;clear s;clear Y;go_wp2_with(first|(refine(p.out.less i f d O O jO (decide_eq_true m.out)).mono ?_;rintro v aa⟨rfl,q⟩;have r:=p.out.below (q.below _);have t:=C.trans (mD (F:=λb=>b=o\/b=g) (q.below _)) (λb=>.inl);have Z:=r.Agi i;have V:=Ac r;have S:=Ac t;clear H r t)|(refine(V.swap i d f O O).mono ?_;rintro v ao⟨rfl,D,I⟩;have U:=Ac D;have T:=Ac (S.trans I (λb=>.inl));clear Z D I));go_roundw
      case rel=>
       refine⟨f,ML e d f,.inr x,rfl,(Qr _ _ _).trans K,?_,λa k=>?_,U,T⟩
       ·rw[S9 id e d f (by rw[i.out];omega) (by rw[i.out];omega)];exact KT L O x M z m
       ·rw[Sz e d f (by rw[i.out];omega) (by rw[i.out];omega),lg O,lg O];exact J a k
      case measure=>simp[intOf];omega
     ·have m:=Ac s;clear s;clear Y;go_wp2_with(refine(p.out.less i f d O O jS (decide_eq_false m.out)).mono ?_;rintro v aa⟨rfl,q⟩;have r:=p.out.below (q.below _);have t:=C.trans (mD (F:=λb=>b=o\/b=g) (q.below _)) (λb=>.inl);clear H);go_ret;exact⟨⟨_,rfl⟩,e,K,Jh L (λa y k u=>Ψ (z a y k u) m.out),J,r,t⟩
   ·have t2:=dF ((j:Int)<(n:Int));have E:=A.out;have G:=ab.out;have p:=Ac E;have C:=Ac G;clear E G;have H:=p.out.yC i;have x:f<n:=O;have M:(f-1)/2=d:=Ψ P.out Q.out;have z:Hid (∀a,0<a->a<n->(a-1)/2=d->Gl id e f<=Gl id e a):=Ac (λa y k u=>by
     have X:a=f\/a=j:=Ψ P.out Q.out;rcases X with rfl|rfl
     ·exact Ae _
     ·omega)
    by_cases s:Gl id e f<Gl id e d
    ·have m:=Ac s;clear s;go_wp2_with(first|(refine(p.out.less i f d O O jO (decide_eq_true m.out)).mono ?_;rintro v aa⟨rfl,q⟩;have r:=p.out.below (q.below _);have t:=C.trans (mD (F:=λb=>b=o\/b=g) (q.below _)) (λb=>.inl);have Z:=r.Agi i;have V:=Ac r;have S:=Ac t;clear H r t)|(refine(V.swap i d f O O).mono ?_;rintro v ao⟨rfl,D,I⟩;have U:=Ac D;have T:=Ac (S.trans I (λb=>.inl));clear Z D I));go_roundw
     case rel=>
      refine⟨f,ML e d f,.inr x,rfl,(Qr _ _ _).trans K,?_,λa k=>?_,U,T⟩
      ·rw[S9 id e d f (by rw[i.out];omega) (by rw[i.out];omega)];exact KT L O x M z m
      ·rw[Sz e d f (by rw[i.out];omega) (by rw[i.out];omega),lg O,lg O];exact J a k
     case measure=>simp[intOf];omega
    ·have m:=Ac s;clear s;go_wp2_with(refine(p.out.less i f d O O jS (decide_eq_false m.out)).mono ?_;rintro v aa⟨rfl,q⟩;have r:=p.out.below (q.below _);have t:=C.trans (mD (F:=λb=>b=o\/b=g) (q.below _)) (λb=>.inl);clear H);go_ret;exact⟨⟨_,rfl⟩,e,K,Jh L (λa y k u=>Ψ (z a y k u) m.out),J,r,t⟩
end
def yD(l:List Nat)(s:Nat)(h:GU (Gl id l) l.length):TR (Gl id (l++[s])) l.length (l.length+1):=by
 have d:∀a,a<l.length->Gl id (l++[s]) a=Gl id l a:=λa b=>by simp only[Gl,DK b]
 refine⟨λa c b f=>?_,λc a e b g=>O⟩;rw[d a O,d _ O];exact h a c O
def Am0{w:jT}{B o g c:Nat}{l:List Nat}(s:Nat)(h:Fe w B o g c l)(E:l.length<1000)(q:GU (Gl id l) l.length):
 Calls prog 154 #[.iface 362 (AB o),.iface 3 (gz iU (s:Int))] w λa w'=>a=iO (iJ #[])/\
  ∃f A b,b.Perm (l++[s])/\GU (Gl id b) b.length/\Fe w' B o f A b/\(f=g\/w<=f)/\Touch (λe=>e=o\/e=g) w w':=by
 have H:=λC=>Aio C (Φ o) w
 have k:=Ac (Arh s h E);have y:=Ac (yD l s q);clear h q;go_in;go_wp2_with fail;refine k.mono ?_;rintro a I⟨rfl,p,m,d,r,u⟩;have i:(l++[s]).length=l.length+1:=by simp
 have K:=d.Ay4 i;obtain⟨v,z,J,x,j⟩:=lM (Ada (jm (Φ p)) (l.length+1) m I O) (Ave l.length d O (by rw[i];exact y)) d u r;clear d u r H k i;generalize l.length=n at*;go_wp2_with fail;refine v.ro ?_;go_wp2_with fail;refine z.mono ?_;rintro a L⟨rfl,b,t,D,F,G⟩;go_wp2;go_end0;refine⟨rfl,p,m,b,t,by rw[t.length_eq];exact D,F,j,x.trans G (λe hb=>?_)⟩;rcases hb with rfl|rfl
 ·exact .inl (.inl rfl)
 ·rcases j with a|a
  ·exact .inl (.inr a)
  ·exact .inr a
def heapPop{w:jT}{B o g c n:Nat}{l:List Nat}(h:Fe w B o g c l)(e:l.length=n+1)(q:GU (Gl id l) (n+1)):
 Calls prog 204 #[.iface 362 (AB o)] w λb w'=>∃(m:Nat)(x:List Nat),b=iO (.iface 3 (gz iU (m:Int)))/\
  (m::x).Perm l/\(∀k∈l,m<=k)/\GU (Gl id x) n/\Fe w' B o g c x/\Touch (λf=>f=o\/f=g) w w':=by
 have X:=h.len;have ab:=h.Ay4 e;have ac:=h.Agi e;have z:=Ac (Ada (jm (Φ g)) (n+1) c w O);have A:=Ac (h.swap e 0 n O O);have M:Hid (∀k∈l,Gl id l 0<=k):=Ac (λk j=>by
  obtain⟨v,i,rfl⟩:=List.getElem_of_mem j;have:=iG q v O;rw[Gl,Gl,Ag i]at this;exact this)
 have E:O4 (Gl id (ML l 0 n)) 0 n:=by
  rw[S9 id l 0 n O O];exact WB q
 have Q:=Ac E;have p:=Ac e;rw[e]at X;clear h q E e;go_in;go_wp2_with(first|(refine z.out.ro ?_)|(refine A.out.mono ?_;rintro b al⟨rfl,H,J⟩;have y:=Ac (Amz (N:=n+1) n H (by rw[TT];exact p) O Q);have T:=Ac J;clear ab ac z A H J));refine y.mono ?_;rintro b L⟨⟨f,rfl⟩,a,r,D,F,I,K⟩;have W:a.length=n+1:=by rw[r.length_eq,TT];exact p
 have d:a[n]?=jm (Gl id l 0):=by
  have ad:=p.out;have G:0<l.length:=O;rw[F n (Ae _),Sz l 0 n G O];have j:l[0]?=jm (Gl id l 0):=by rw[Gl,Ag G];rfl
  by_cases b:n=0
  ·subst b;rw[kX rfl];exact j
  ·rw[lg b,kX rfl];exact j
 have s:a=a.take n++[Gl id l 0]:=by
  have:=List.take_append_drop n a;rw[List.drop_eq_getElem_cons O,List.drop_eq_nil_of_le O]at this;rw[Ag O]at d;injection d with d
  rw[d]at this;exact this.symm
 have u:=Avd (w:=L) (B:=B) (o:=o) (g:=g) (c:=c) (l:=a.take n) (Gl id l 0) (s▸I);have u:=Ac u;have ah:=λV=>Amx V (Φ o) L
 obtain⟨S,P,R,U⟩:=lL s D r (T.trans K (λf=>.inl));clear I K F d s D r W y;generalize ae:Gl id l 0=m at*;go_wp2_with(refine u.out.mono ?_;rintro b am⟨rfl,Y,aa⟩);go_ret;refine⟨m,a.take n,rfl,?_,M,?_,Y,U.trans aa (λf=>.inl)⟩
 ·have C:(m::a.take n).Perm (a.take n++[m]):=(List.perm_append_singleton m (a.take n)).symm;rw[<-S.out]at C;exact C.trans (R.trans (Qr _ _ _))
 ·intro v d i;have:=P v d i;have b:∀t,t<n->Gl id (a.take n) t=Gl id a t:=λt Z=>by simp only[Gl,Dh,kX Z]
  rw[b _ O,b _ i];exact this
