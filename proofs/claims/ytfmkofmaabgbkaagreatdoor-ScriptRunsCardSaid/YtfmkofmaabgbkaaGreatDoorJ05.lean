import Derived.Deep.Upon
import Derived.Lib.AppendZeros
import Derived.Test.YtfmkofmaabgbkaaGreatDoorJ04
set_option linter.defProp false
set_option maxHeartbeats 32000000
set_option maxRecDepth 100000
open Go.Lib renaming hid->Ac,wpList_append_run->FT,run_eql_slice_nil->J7
open List renaming length_map->CZ,length_set->Dh
open Array renaming size_setIfInBounds->H9,getElem?_setIfInBounds->AZ
open Go.World renaming heap_setCells_other->fV,frozen?->Jg
open Nat renaming le_refl->Ae
open Go.Value renaming slice->fD,int->fP,bool->fU
open Go.Ending renaming returned->gY
open Go.IntKind renaming i64->gZ,u64->ig
open Go.Obj renaming cells->iy
open Option renaming some->iC
open Bool renaming false->jw
open Go renaming World->jD,Value->jL
namespace Go.Proofs.YtfmkofmaabgbkaaGreatDoor
open Go.RowKit
open Go.Proofs.Tryz
def CS{w:jD}{g:Nat}{e:TypeId}{a b c d:jL}(h:CB w g e [a,b,c,d]):
 w.cell? (Φ g)=iC a/\w.cell? (Δ g 1)=iC b/\w.cell? (Δ g 2)=iC c/\w.cell? (Δ g 3)=iC d/\
 w.frozen? (Φ g)=jw/\w.frozen? (Δ g 1)=jw/\w.frozen? (Δ g 2)=jw/\w.frozen? (Δ g 3)=jw:=
 ⟨h.cell 0,h.cell 1,h.cell 2,h.cell 3,h.frozen 0,h.frozen 1,h.frozen 2,h.frozen 3⟩
def Tq(d L g:Nat)(b c e:jL)(w:jD)(i:L<=1024)(h:CB w d 83 [fD (iC (Φ g)) L L,b,c,e]):
 Calls prog 33 #[ptr0 d] w λa f=>a=gY (fP gZ ((L*64:Nat):Int))/\w=f:=by
 obtain⟨j,k,l,m,f0,f1,f2,f3⟩:=CS h;go_enter func33,ntmps33;go_wp2;go_ret;exact⟨by simp,rfl⟩
def y9(d L g off a:Nat)(i j:jL)(w:jD)(k:L<=1024)(h:CB w d 83 [fD (iC (Φ g)) L L,fU jw,i,j])(q:off<L*64)(o:0<a)(m:off%a=0)(p:a<=64):
 Calls prog 107 #[ptr0 d,fP gZ (off:Int),fP gZ (a:Int)] w λb c=>b=gY (fP gZ 0)/\w=c:=by
 obtain⟨r,s,t,u,f0,f1,f2,f3⟩:=CS h;have f:=Tq d L g (fU jw) i j w k h;have e:=Ac f;have t1:(((L*64:Nat):Int)==0)=jw:=ζ O;have t2:decide ((off:Int)<0)=jw:=by simp
 have t4:((off:Int)%(a:Int)!=0)=jw:=by
  have:(off:Int)%(a:Int)=((off%a:Nat):Int):=by rw[Int.natCast_emod]
  rw[this,m];rfl
 generalize l:L*64=n at*;clear f l h;go_enter func107,ntmps107
 go_wp2_with fail
 refine e.mono ?_;rintro b c⟨rfl,rfl⟩
 go_wp2_with fail
 refine e.mono ?_;rintro b c⟨rfl,rfl⟩
 go_wp2_with fail
 go_ret;exact⟨rfl,rfl⟩
def ZU(d L g off j:Nat)(c e:jL)(w:jD)(n:0<L)(k:L<=1024)(h:CB w d 83 [fD (iC (Φ g)) L L,fU true,c,e]):
 Calls prog 107 #[ptr0 d,fP gZ (off:Int),fP gZ (j:Int)] w λa f=>a=gY (fP gZ 12)/\w=f:=by
 obtain⟨o,p,q,r,f0,f1,f2,f3⟩:=CS h;have b:=Tq d L g (fU true) c e w k h;have i:=Ac b;have t1:(((L*64:Nat):Int)==0)=jw:=ζ O;generalize l:L*64=m at*;clear b l h;go_enter func107,ntmps107
 go_wp2_with fail
 refine i.mono ?_;rintro a f⟨rfl,rfl⟩
 go_wp2_with fail
 go_ret;exact⟨rfl,rfl⟩
def VY(d L:Nat)(ws:Nat->UInt64)(len:Mode)(mark:Nat->Nat)(g:Nat)(hb:Nat->Option Nat)(j:Nat)(w:jD)(m:L<=1024)(n:len.lf≠0)(h:CY w d L ws len mark g hb)(p:j<8*L):
 Calls prog 75 #[ptr0 d,fP gZ ((8*j:Nat):Int)] w λb e=>b=gY (.tuple #[fP ig ((ws j).toNat:Int),fP gZ 0])/\w=e:=by
 obtain⟨o,a⟩:=h.box;rw[decide_eq_false n]at a;obtain⟨q,r,s,t,f0,f1,f2,f3⟩:=CS a;have k:=y9 d L g (8*j) 8 (fP gZ len.lf) (fP gZ o) w m a O U O U;have f:=Ac k;have l:=h.line (j/8) O;have c:=qV (iC (Δ g (66*(j/8)))) 64 64 (j%8) (II ws (j/8)) w U l (by rw[Ob];omega);rw[Ot,show 8*(j/8)+j%8=j by omega]at c;have i:=Ac c;clear k l c h a;go_enter func75,ntmps75
 go_wp2_with fail
 refine f.mono ?_;rintro b e⟨rfl,rfl⟩;clear f
 go_wp2_with fail
 rw[show 8*j/64*66=66*(j/8)by omega,show 8*(j:Int)%64=((8*(j%8):Nat):Int)by omega];refine i.mono ?_;rintro b e⟨rfl,rfl⟩;clear i
 go_wp2_with fail
 go_ret2;exact⟨rfl,rfl⟩
def iW(d L g off:Nat)(c e:jL)(w:jD)(j:0<L)(i:L<=1024)(h:CB w d 83 [fD (iC (Φ g)) L L,fU true,c,e]):
 Calls prog 75 #[ptr0 d,fP gZ (off:Int)] w λb f=>b=gY (.tuple #[fP ig 0,fP gZ 12])/\w=f:=by
 have a:=Ac (ZU d L g off 8 c e w j i h);obtain⟨k,l,m,n,f0,f1,f2,f3⟩:=CS h;clear h;go_enter func75,ntmps75
 go_wp2_with fail
 refine a.mono ?_;rintro b f⟨rfl,rfl⟩;clear a
 go_wp2_with fail
 go_ret2;exact⟨rfl,rfl⟩
def ZV(d L g off:Nat)(x:Int)(c e:jL)(w:jD)(j:0<L)(i:L<=1024)(h:CB w d 83 [fD (iC (Φ g)) L L,fU true,c,e]):
 Calls prog 104 #[ptr0 d,fP gZ (off:Int),fP ig x] w λb f=>b=gY (fP gZ 12)/\w=f:=by
 have a:=Ac (iW d L g off c e w j i h);obtain⟨k,l,m,n,f0,f1,f2,f3⟩:=CS h;clear h;go_enter func104,ntmps104
 go_wp2_with fail
 refine a.mono ?_;rintro b f⟨rfl,rfl⟩;clear a
 go_wp2_with fail
 go_ret;exact⟨rfl,rfl⟩
def ZW(d L g off:Nat)(c e:jL)(w:jD)(j:0<L)(i:L<=1024)(h:CB w d 83 [fD (iC (Φ g)) L L,fU true,c,e]):
 Calls prog 106 #[ptr0 d,fP gZ (off:Int)] w λb f=>b=gY (fP gZ 12)/\w=f:=by
 have a:=Ac (ZU d L g off 1 c e w j i h);obtain⟨k,l,m,n,f0,f1,f2,f3⟩:=CS h;clear h;go_enter func106,ntmps106
 go_wp2_with fail
 refine a.mono ?_;rintro b f⟨rfl,rfl⟩;clear a
 go_wp2_with fail
 go_ret;exact⟨rfl,rfl⟩
def ZX(d L g:Nat)(c e:jL)(w:jD)(j:0<L)(i:L<=1024)(h:CB w d 83 [fD (iC (Φ g)) L L,fU true,c,e]):
 Calls prog 69 #[ptr0 d] w λb f=>b=gY (fP gZ 12)/\w=f:=by
 have a:=Ac (ZU d L g 0 1 c e w j i h);obtain⟨k,l,m,n,f0,f1,f2,f3⟩:=CS h;clear h;go_enter func69,ntmps69
 go_wp2_with fail
 refine a.mono ?_;rintro b f⟨rfl,rfl⟩;clear a
 go_wp2_with fail
 go_ret;exact⟨rfl,rfl⟩
def VZ(d g L:Nat)(lf r:Int)(w:jD)(k:lf≠0)(u: -1<=lf/\lf<=1000000000)(h:CB w d 83 [fD (iC (Φ g)) L L,fU jw,fP gZ lf,fP gZ r]):
 Calls prog 109 #[ptr0 d] w λq m=>q=gY (.tuple #[])/\Touch (λb=>b=d) w m/\
  ∃e:Int,CB m d 83 [fD (iC (Φ g)) L L,fU (decide ((if 0<lf then lf-1 else lf)=0)),fP gZ (if 0<lf then lf-1 else lf),fP gZ e]:=by
 obtain⟨s,a⟩:=ε ((if 0<lf then lf-1 else lf));rw[<-a];have i:=Ac a;have n:=Ac k;clear a k;obtain⟨v,x,y,z,f0,f1,f2,f3⟩:=CS h;have j:=Touch.refl (λb=>b=d) w;have f:=Ac h;clear h;by_cases l:0<lf
 ·have t1:decide (0<lf)=true:=decide_eq_true l;have t:IntKind.i64.wrap (lf-1)=lf-1:=IntWalk.i64_in _ O;have o:Hid (∀c:Int,Touch (λb=>b=d) w (((w.setCell (Δ d 3) (fP gZ c)).setCell (Δ d 2) (fP gZ (lf-1))).setCell (Δ d 1) (fU (lf-1==0)))/\∃e:Int,CB (((w.setCell (Δ d 3) (fP gZ c)).setCell (Δ d 2) (fP gZ (lf-1))).setCell (Δ d 1) (fU (lf-1==0))) d 83 [fD (iC (Φ g)) L L,fU (decide (lf-1=0)),fP gZ (lf-1),fP gZ e]):=
   Ac (λc=>⟨((j.setCell (p:=Δ d 3) (.inl rfl) _).setCell (p:=Δ d 2) (.inl rfl) _).setCell (p:=Δ d 1) (.inl rfl) _,c,((f.AX 3 (fP gZ c)).AX 2 (fP gZ (lf-1))).AX 1 (fU (lf-1==0))⟩)
  go_enter func109,ntmps109;go_wp2;go_end0;have a:=i.out;rw[jM O]at a;subst a;exact⟨rfl,o _⟩
 ·have t1:decide (0<lf)=jw:=decide_eq_false l;go_enter func109,ntmps109;go_wp2;go_end0;have a:=i.out;rw[ku O]at a;subst a;rw[decide_eq_false n.out];exact⟨rfl,j.setCell (p:=Δ d 3) (.inl rfl) _,_,f.AX 3 _⟩
def Aho(g off k:Nat)(l:List UInt64)(x:UInt64)(w:jD)(N:l.length=8)(h:Bs w (iC (Δ g off)) 64 (leBytes l))(v:∀a,a<64->w.frozen? (Δ g (off+a))=jw)(T:k<8):
 Calls prog 150 #[.pointer (iC (Δ g off)),fP gZ ((8*k:Nat):Int),fP ig (x.toNat:Int)] w λb Q=>b=gY (.tuple #[])/\∃d,η w d/\Q=d.setCells g off ((leBytes (l.set k x)).map bv):=by
 have B:=Yn (iC (Δ g off)) 64 64 k l x w U h O;have r:=Ac B;have A:((leBytes (l.set k x)).map bv).length=64:=by rw[CZ,leBytes_length,Dh,N]
 have e:=Ac A;have z:g<w.heap.size:=by
  obtain⟨_,t,E,b,hb,_⟩:=h.at (show 0<64 by decide);injection b with b;injection b with b _ _;omega
 have H:Hid (∀a,a<64->(w.cell? (Δ g (off+a))).isSome=true):=Ac (λa c=>by
  obtain⟨_,t,E,b,hb,o⟩:=h.at c;injection b with b;injection b with j m _;subst j m
  rw[o];rfl)
 have J:=Ac v;clear B A h v;go_enter func150,ntmps150
 go_wp2_with fail
 refine r.mono ?_;rintro b d⟨f,M,rfl,F,n⟩;clear r;obtain⟨S,G⟩:=CQ F;have u:∀a q,((leBytes (l.set k x)).map bv)[a]?=iC q->d.cell? (Δ f (0+a))=iC q:=λa q c=>by
  have P:=(List.getElem?_eq_some_iff.1 c).1;obtain⟨t,E,b,_,o⟩:=G.2 U;injection b with b;injection b with j m _;subst j m
  rw[o a (by rw[<-e.out];exact P)];exact c
 have C:∀a,a<((leBytes (l.set k x)).map bv).length->(d.cell? (Δ g (off+a))).isSome=true:=λa c=>by
  rw[n.cell (p:=Δ g (off+a)) z];exact H a (by rw[e.out]at c;exact c)
 have y:∀a,a<((leBytes (l.set k x)).map bv).length->d.frozen? (Δ g (off+a))=jw:=λa c=>by
  rw[n.frozen (p:=Δ g (off+a)) z];exact J a (by rw[e.out]at c;exact c)
 have I:=Ac u;have L:=Ac C;have K:=Ac y;have D:(prog.info? 205).map (·.size)=iC 64:=by kernel_rfl
 have s:Hid ((prog.info? 205).map (·.size)=iC ((leBytes (l.set k x)).map bv).length):=Ac (by rw[e.out];exact D);have R:∀i,(Instr.arrayAt 205 (fD (iC (Φ f)) 64 M)).run prog i=.ok (ptr0 f) i:=λi=>by
  simp[Instr.arrayAt,run_underlying underlying205]
 clear u C y G F D
 go_wp2_with(first
  |(with_reducible refine Tj rfl 205 (.tmp 21) rfl f 0 rfl ((leBytes (l.set k x)).map bv) _ underlying205 rfl s.out I.out ?_)
  |(with_reducible refine YT rfl 205 (.tmp 24) (.tmp 22) rfl g off rfl ((leBytes (l.set k x)).map bv) rfl s.out L.out K.out (Jk _) ?_)
  |fail)
 go_end0;exact⟨rfl,d,n,rfl⟩
def Touch.ZY{F:Nat->Prop}{w w':jD}{row:Option Nat}(h:w.grownBy w' row)(hF:∀k,row=iC k->F k):Touch F w w':=
 ⟨h.os,h.tape,h.output,h.size,λa hb c=>h.block a hb (λb=>c (hF a b.symm))⟩
def ZO.append{w:jD}{A:Option Addr}{i:List (Nat×UInt64)}{n c:Nat}{hb:Option Nat}(h:ZO w A i c hb)(o:n=i.length)(m:TypeId)(b:Nat)(j:Nat×UInt64)(I:CB w b 259 [fP gZ (j.1:Nat),fP ig (j.2.toNat:Nat)])(Y:n<=1000000):
 ∃g H l,(Builtin.append_ #[206,206] m #[fD A n c,fD (iC (Φ b)) 1 1]).run prog w=.ok (fD (iC (Φ g)) (n+1) H) l/\
  ZO l (iC (Φ g)) (i++[j]) H (iC g)/\(hb=iC g\/g=w.heap.size)/\Touch (λG=>hb=iC G) w l:=by
 obtain⟨e,r⟩:=ε (Value.int gZ (j.1:Nat));obtain⟨f,s⟩:=ε (Value.int ig (j.2.toNat:Nat));have S:chV (i++[j])=chV i++[e,f]:=by rw[Ab1,r,s];rfl
 have T:(i++[j]).length=n+1:=by rw[o];simp
 have Z:e.oneCell'=true:=by rw[r];rfl
 have aa:f.oneCell'=true:=by rw[s];rfl
 rw[<-r,<-s]at I;clear r s;obtain⟨a,p,t,F,u⟩:∃a,prog.info? 259=iC a/\a.zero=iC (.agg #[fP gZ 0,fP ig 0])/\a.size=2/\a.bytes=16:=by
  have R:(prog.info? 259).map (λa=>(a.zero,a.size,a.bytes))=iC (iC (.agg #[fP gZ 0,fP ig 0]),2,16):=by kernel_rfl
  exact info_parts R
 have E:∀v k,[e,f][v]?=iC k->w.cell? (((Φ b):Addr).add v)=iC k:=λv k q=>by
  rw[Addr.add_lit];have:=World.news_of_block I v k (by simpa using q);rw[Addr.add_lit]at this;exact this
 have C:∀k∈[e,f],k.oneCell'=true:=by
  intro k q;simp at q;rcases q with rfl|rfl<;>assumption
 unfold ZO;rw[S,T];rcases h with⟨rfl,rfl,rfl⟩|⟨X,N,Q,J⟩
 ·simp only[List.length_nil]at o;subst o;have K:=Src.ofSlice (P:=prog) w underlying206 (Φ b) 1 1 [e,f] (size:=a.size) (by rw[F];rfl) E C;have V:=run_append_grow_src (P:=prog) w 206 206 m 259 a _ underlying206 p t A 0 0 []
   (by cases A with
    |none=>exact run_firstCells_none w.drew a.size 0 0 0
    |some L=>exact run_firstCells_some w.drew a.size 0 L 0 0 [] Θ Θ) (fD (iC (Φ b)) 1 1) 1 [e,f] K U U (by rw[u];decide)
  have W:=run_append_grow_src (P:=prog) w 206 206 m 259 a _ underlying206 p t none 0 0 []
   (run_firstCells_none w.drew a.size 0 0 0) (fD (iC (Φ b)) 1 1) 1 [e,f] K U U (by rw[u];decide)
  obtain⟨g,B,l,x,y,z,d,M⟩:=run_append_lies (P:=prog) w 206 m 0 259 a _ 2 16 underlying206 p t F u rfl U (fD none 0 0) 0 [] (World.ownsRow_nil w 0 259 2) (Φ b) 1 1 [e,f] rfl E C U (by unfold maxLen;omega) O (Nat.zero_le _) _ rfl;refine⟨g,B,l,(V.trans W.symm).trans x,.inr ⟨g,rfl,rfl,y⟩,?_,Touch.ZY z (λG D=>by cases D)⟩;rcases d with d|d
  ·cases d
  ·exact .inr d
 ·subst N Q;rw[<-o]at J;obtain⟨g,B,l,x,y,z,d,M⟩:=run_append_lies (P:=prog) w 206 m 0 259 a _ 2 16 underlying206 p t F u rfl U _ n (chV i) J (Φ b) 1 1 [e,f] rfl E C U (by unfold maxLen;omega) O (Nat.zero_le _) _ rfl;refine⟨g,B,l,x,.inr ⟨g,rfl,rfl,y⟩,?_,Touch.ZY z (λG D=>D)⟩;rcases d with d|d
  ·left;exact d
  ·right;exact d
section
variable{w:jD}{d L:Nat}{ws:Nat->UInt64}{len:Mode}{mark:Nat->Nat}{g:Nat}{hb:Nat->Option Nat}
def FW{w:jD}{g i:Nat}{cur:Array jL}{e:TypeId}{a:Nat×Nat}(v:jL)(h:w.heap[g]?=iC (iy cur e a)):(w.setCell (Δ g i) v).heap[g]?=iC (iy (cur.setIfInBounds i v) e a):=by
 simp[World.setCell,Array.getElem?_modify,h]
def CY.glt(h:CY w d L ws len mark g hb):g<w.heap.size:=h.lt g (.inr (.inl rfl))
def CY.dlt(h:CY w d L ws len mark g hb):d<w.heap.size:=h.lt d (.inl rfl)
def CY.step(h:CY w d L ws len mark g hb){w':jD}(t:Touch (λa=>a=d) w w'){k:Int}(p:CB w' d 83 [fD (iC (Φ g)) L L,fU (decide (len.tick.lf=0)),fP gZ len.tick.lf,fP gZ k]):CY w' d L ws len.tick mark g hb:=by
 have j:∀a,a<w.heap.size->a≠d->w'.heap[a]?=w.heap[a]?:=λa e b=>t.block a e b
 obtain⟨cur,r,s,n,o⟩:=h.blk;refine⟨⟨k,p⟩,?_,h.gd,⟨cur,(j g h.glt h.gd).trans r,s,n,λi f=>?_⟩,h.bd,h.inj,h.mrk⟩
 ·have:=h.lfr;show-1<=(if 0<len.lf then len.lf-1 else len.lf)/\(if 0<len.lf then len.lf-1 else len.lf)<=1000000000;split<;>omega
 ·obtain⟨A,c,l,m,q⟩:=o i f;exact⟨A,c,l,m,q.keep (λa b e=>j a e (h.bd i f a b).2)⟩
def CY.grow(h:CY w d L ws len mark g hb){i:Nat}(hi:i<L){o:jD}(t:Touch (λk=>hb i=iC k) w o){f r:Nat}{p:Nat×UInt64}(I:ZO o (iC (Φ f)) (len.YR i++[p]) r (iC f))(x:hb i=iC f\/w.heap.size<=f):
 CY (o.setCell (Δ g (66*i+64)) (fD (iC (Φ f)) (len i+1) r)) d L ws (len.note i p) mark g (λk=>if k=i then iC f else hb k):=by
 have S:(len.note i p).YR i=len.YR i++[p]:=jM rfl;have T:∀k,k≠i->(len.note i p).YR k=len.YR k:=λk a=>ku a
 have V:=h.glt;have B:=h.dlt;have y:∀b,b≠g->(o.setCell (Δ g (66*i+64)) (fD (iC (Φ f)) (len i+1) r)).heap[b]?=o.heap[b]?:=λb e=>Below.heap_setCell o (Δ g (66*i+64)) _ b e
 have R:¬hb i=iC g:=λa=>(h.bd i hi g a).1 rfl
 have Q:¬hb i=iC d:=λa=>(h.bd i hi d a).2 rfl
 have F:f≠g/\f≠d:=by
  rcases x with a|a
  ·exact h.bd i hi f a
  ·exact⟨O,O⟩
 obtain⟨st,H⟩:=h.box;obtain⟨cur,K,U,D,E⟩:=h.blk;have M:=(t.block g V R).trans K;refine⟨⟨st,(y d (λa=>h.gd a.symm)).trans ((t.block d B Q).trans H)⟩,h.lfr,h.gd,⟨_,FW _ M,by rw[H9];exact U,λj l k N=>?_,λj l=>?_⟩,?_,?_,?_⟩
 ·rw[AZ,ku O];exact D j l k N
 ·obtain⟨A,c,C,z,J⟩:=E j l;by_cases a:j=i
  ·subst a;refine⟨iC (Φ f),r,?_,?_,?_⟩
   ·rw[AZ,jM rfl,jM O,Mode.Ti,jM rfl]
   ·rw[AZ,ku O];exact z
   ·rw[S,jM rfl];exact I.keep (λb e _=>y b (by injection e with e;omega))
  ·refine⟨A,c,?_,?_,?_⟩
   ·rw[AZ,ku O,Mode.Ti,ku a];exact C
   ·rw[AZ,ku O];exact z
   ·rw[T _ a,ku a];exact J.keep (λb e P=>(y b (h.bd j l b e).1).trans (t.block b P (h.inj i j hi l (λX=>a X.symm) b · e)))
 ·intro j l b e;by_cases a:j=i
  ·rw[jM a]at e;injection e with e;subst e;exact F
  ·rw[ku a]at e;exact h.bd j l b e
 ·intro q b v e G W m;by_cases s:q=i<;>by_cases u:b=i
  ·omega
  ·rw[jM s]at m;rw[ku u];injection m with m;subst m
   intro n;rcases x with a|a
   ·exact h.inj b i e hi u f n a
   ·have:=h.lt f (.inr (.inr ⟨b,e,n⟩));omega
  ·rw[ku s]at m;rw[jM u];intro n;injection n with n;subst n
   rcases x with a|a
   ·exact h.inj q i v hi s f m a
   ·have:=h.lt f (.inr (.inr ⟨q,v,m⟩));omega
  ·rw[ku s]at m;rw[ku u];exact h.inj q b v e G W m
 ·intro j l;have:=h.mrk j l;by_cases a:j=i
  ·subst a;rw[Mode.Ti,jM rfl];omega
  ·rw[Mode.Ti,ku a];exact this
def CY.put(h:CY w d L ws len mark g hb){i k:Nat}(hi:i<L)(p:k<8)(x:UInt64):
 CY (w.setCells g (66*i) ((leBytes ((II ws i).set k x)).map bv)) d L (λj=>if j=8*i+k then x else ws j) len mark g hb:=by
 have q:((leBytes ((II ws i).set k x)).map bv).length=64:=by rw[CZ,leBytes_length,Dh,Ob]
 have o:∀b,b≠g->b<w.heap.size->(w.setCells g (66*i) ((leBytes ((II ws i).set k x)).map bv)).heap[b]?=w.heap[b]?:=λb m n=>fV w g _ _ n m
 obtain⟨st,C⟩:=h.box;obtain⟨cur,E,r,z,B⟩:=h.blk;obtain⟨u,s,t,e⟩:=EW g _ _ ((leBytes ((II ws i).set k x)).map bv) (66*i) w cur E (by rw[q,r];omega);rw[q]at e;refine⟨⟨st,(o d (λf=>h.gd f.symm) h.dlt).trans C⟩,h.lfr,h.gd,⟨u,s,by rw[t];exact r,λa l j F=>?_,λa l=>?_⟩,h.bd,h.inj,h.mrk⟩
 ·rw[e];by_cases f:a=i
  ·subst f;rw[jM O,show 66*a+j-66*a=j by omega,Adv ws a k x p,List.getElem?_map]
  ·rw[ku O,qX ws i a k x p f];exact z a l j F
 ·obtain⟨A,c,v,y,D⟩:=B a l;refine⟨A,c,?_,?_,D.keep (λb m n=>o b (h.bd a l b m).1 n)⟩
  ·rw[e,ku O];exact v
  ·rw[e,ku O];exact y
end
def Touch.setCells{F:Nat->Prop}{w w':jD}(h:Touch F w w'){g o:Nat}{vs:List jL}(e:F g\/w.heap.size<=g):Touch F w (w'.setCells g o vs):=by
 refine⟨?_,?_,?_,?_,λb hb a=>?_⟩
 ·rw[EX];exact h.os
 ·rw[Ec];exact h.tape
 ·rw[DC];exact h.output
 ·rw[setCells_size];exact h.size
 ·rw[fV w' g o vs (Nat.lt_of_lt_of_le hb h.size) (λc=>e.elim (λd=>a (c▸d)) (λf=>O))];exact h.block b hb a
def CY.below{w w':jD}{d L:Nat}{ws:Nat->UInt64}{len:Mode}{mark:Nat->Nat}{g:Nat}{hb:Nat->Option Nat}(h:CY w d L ws len mark g hb)(k:η w w'):CY w' d L ws len mark g hb:=
 h.keep (λa _ b=>k.block a b)
def yA(d L:Nat)(ws:Nat->UInt64)(len:Mode)(mark:Nat->Nat)(g:Nat)(hb:Nat->Option Nat)(j:Nat)(w:jD)(p:L<=1024)(e:len.lf≠0)(h:CY w d L ws len mark g hb)(q:j<8*L):
 Calls prog 104 #[ptr0 d,fP gZ ((8*j:Nat):Int),fP ig ((ws j).toNat:Int)] w λc b=>c=gY (fP gZ 0)/\CY b d L ws len.tick mark g hb/\Touch (Fe d L g hb) w b:=by
 have n:=Ac h;obtain⟨r,a⟩:=h.box;rw[decide_eq_false e]at a;obtain⟨s,t,u,v,f0,f1,f2,f3⟩:=CS a;have l:=VY d L ws len mark g hb j w p e h q;have i:=Ac l;have k:=VZ d g L len.lf r w e h.lfr a;have f:=Ac k;clear l k h a;go_enter func104,ntmps104
 go_wp2_with fail
 refine i.mono ?_;rintro c b⟨rfl,rfl⟩;clear i
 go_wp2_with fail
 refine f.mono ?_;rintro c b⟨rfl,m,y,o⟩;clear f s t u v f0 f1 f2 f3
 go_wp2_with fail
 go_ret;exact⟨rfl,n.step m o,m.mono (λx h=>.inl h)⟩
def Adx(d L:Nat)(ws:Nat->UInt64)(len:Mode)(mark:Nat->Nat)(g:Nat)(hb:Nat->Option Nat)(j:Nat)(x:UInt64)(w:jD)(aw:L<=1024)(m:len.lf≠0)(h:CY w d L ws len mark g hb)(aE:j<8*L)(aM:ws j≠x)(aJ:len (j/8)<=1000000):
 Calls prog 104 #[ptr0 d,fP gZ ((8*j:Nat):Int),fP ig (x.toNat:Int)] w λa p=>a=gY (fP gZ 0)/\
  ∃b,(hb (j/8)=iC b\/w.heap.size<=b)/\CY p d L (λab=>if ab=j then x else ws ab) (len.note (j/8) (8*(j%8),ws j)).tick mark g (λD=>if D=j/8 then iC b else hb D)/\Touch (Fe d L g hb) w p:=by
 obtain⟨a0,z⟩:=h.box;have ae:=h.lfr;rw[decide_eq_false m]at z;obtain⟨a3,a4,a5,a6,f0,f1,f2,f3⟩:=CS z;have X:=VY d L ws len mark g hb j w aw m h aE;have J:=Ac X;have t1:(((ws j).toNat:Int)!=(x.toNat:Int))=true:=by
  rw[bne_iff_ne];intro a;exact aM (UInt64.toNat_inj.1 O)
 obtain⟨aq,A,aZ,av,R⟩:=h.blk;obtain⟨t,u,Q,ar,U⟩:=R (j/8) O;have ac:w.cell? (Δ g (66*(j/8)+64))=iC (fD t (len (j/8)) u):=by rw[cell_of_row w g _ aq _ (0,0) A];exact Q
 have ad:w.frozen? (Δ g (66*(j/8)+64))=jw:=by simp[Jg,A]
 rw[show 66*(j/8)+64=8*j/64*66+64 by omega]at ac ad;have f:=Ac h;have ah:=Ac U;clear X h z av R U A Q ar;have c:η w (w.alloc (iy #[fP gZ (8*(j:Int)%64),fP ig ((ws j).toNat:Int)] 259)):=(Below.refl _ _).alloc (Ae _) _;have S:=f.below c;have V:=ah.keep (w':=w.alloc (iy #[fP gZ (8*(j:Int)%64),fP ig ((ws j).toNat:Int)] 259)) (λk _ aL=>c.block k aL);obtain⟨b,ap,q,Z,W,B,l⟩:=V.append (n:=len (j/8)) rfl 206 w.heap.size (8*(j%8),ws j) (by rw[show((8*(j%8):Nat):Int)=8*(j:Int)%64 by omega];exact heap_alloc_new w _) aJ;have Y:¬hb (j/8)=iC g:=λa=>(f.bd (j/8) O g a).1 rfl
 have C:q.heap[g]?=w.heap[g]?:=(l.block g (by have:=f.glt;simp;omega) Y).trans (c.block g f.glt);have r:q.cell? (Δ g (8*j/64*66+64))=iC (fD t (len (j/8)) u):=(World.cell?_of_block C).trans ac;have s:q.frozen? (Δ g (8*j/64*66+64))=jw:=(World.frozen?_of_block C).trans ad;have G:hb (j/8)=iC b\/w.heap.size<=b:=B.imp id (λa=>by rw[a];simp);have T:=S.grow (i:=j/8) O l W (B.imp id (λa=>O));have P:Touch (Fe d L g hb) w (q.setCell (Δ g (66*(j/8)+64)) (fD (iC (Φ b)) (len (j/8)+1) ap)):=
  ((Touch.of_below (F:=Fe d L g hb) c).trans (l.mono (λD aF=>.inr (.inr ⟨j/8,O,aF⟩))) (λk az=>.inl az)).setCell (.inl (.inr (.inl rfl))) _
 have H:=Ac Z;have M:=Ac r;have N:=Ac s;have i:=Ac T;have K:=Ac P;have al:=Ac G;clear Z r s c S V W B l Y C G T P;go_enter func104,ntmps104
 go_wp2_with fail
 refine J.mono ?_;rintro a p⟨rfl,rfl⟩;clear J
 go_wp2_with(at_builtin;go_loud(refine FT _ rfl (.tmp 36) (.tmp 40) 206 206 rfl (fD t (len (j/8)) u) (fD (iC (Φ w.heap.size)) 1 1) rfl rfl _ _ H.out ?_;clear H;have r:=M.out;have s:=N.out))
 rw[show 8*j/64*66=66*(j/8)by omega,show 8*(j:Int)%64=((8*(j%8):Nat):Int)by omega];refine(Aho g (66*(j/8)) (j%8) (II ws (j/8)) x _ (Ob _ _) (i.line (j/8) O) ?_ O).mono ?_
 ·obtain⟨aX,aD,_⟩:=i.blk;intro a2 _;simp[Jg,aD]
 rintro a aW⟨rfl,aV,y,rfl⟩;have e:=(i.below y).put (i:=j/8) (k:=j%8) O O x;have v:=(K.trans (Touch.of_below (F:=Fe d L g hb) y) (λk h=>.inl h)).setCells (g:=g) (o:=66*(j/8)) (vs:=(leBytes ((II ws (j/8)).set (j%8) x)).map bv) (.inl (.inr (.inl rfl)));rw[show 8*(j/8)+j%8=j by omega]at e;generalize aV.setCells g (66*(j/8)) ((leBytes ((II ws (j/8)).set (j%8) x)).map bv)=aW at e v⊢;obtain⟨aR,E⟩:=e.box;rw[show decide ((len.note (j/8) (8*(j%8),ws j)).lf=0)=jw from decide_eq_false m]at E;have I:=Ac (VZ d g L len.lf aR _ m ae E);have am:=Ac e;have an:=Ac v;clear e v E r s M N y K i
 go_wp2_with fail
 refine I.mono ?_;rintro a p⟨rfl,aa,a1,ao⟩;clear I
 go_wp2_with fail
 go_ret;exact⟨rfl,b,al.out,am.step aa ao,an.trans aa (λk h=>.inl (.inl h))⟩
def CY.mark{w:jD}{d L:Nat}{ws:Nat->UInt64}{len:Mode}{mark:Nat->Nat}{g:Nat}{hb:Nat->Option Nat}(h:CY w d L ws len mark g hb){i:Nat}(hi:i<L)(m:Nat)(v:m<=len i+1):
 CY (w.setCell (Δ g (66*i+65)) (fP gZ (m:Int))) d L ws len (λk=>if k=i then m else mark k) g hb:=by
 have l:∀b,b≠g->(w.setCell (Δ g (66*i+65)) (fP gZ (m:Int))).heap[b]?=w.heap[b]?:=λb j=>Below.heap_setCell w (Δ g (66*i+65)) _ b j
 obtain⟨st,r⟩:=h.box;obtain⟨cur,t,x,p,q⟩:=h.blk;refine⟨⟨st,(l d (λe=>h.gd e.symm)).trans r⟩,h.lfr,h.gd,⟨_,FW _ t,by rw[H9];exact x,λa f k u=>?_,λa f=>?_⟩,h.bd,h.inj,λa f=>?_⟩
 ·rw[AZ,ku O];exact p a f k u
 ·obtain⟨A,c,n,o,s⟩:=q a f;refine⟨A,c,?_,?_,s.keep (λb j _=>l b (h.bd a f b j).1)⟩
  ·rw[AZ,ku O];exact n
  ·by_cases e:a=i
   ·subst e;rw[AZ,jM rfl,jM O,jM rfl]
   ·rw[AZ,ku O,ku e];exact o
 ·show(if a=i then m else mark a)<=len a+1;by_cases e:a=i
  ·rw[jM e];subst e;exact v
  ·rw[ku e];exact h.mrk a f
def Ady(d L:Nat)(ws:Nat->UInt64)(len:Mode)(mark:Nat->Nat)(g:Nat)(hb:Nat->Option Nat)(off:Nat)(w:jD)(H:L<=1024)(l:len.lf≠0)(h:CY w d L ws len mark g hb)(R:off<64*L)(S:len (off/64)<=1000001):
 Calls prog 106 #[ptr0 d,fP gZ (off:Int)] w λj f=>j=gY (fP gZ 0)/\
  CY f d L ws len.tick (λA=>if A=off/64 then len (off/64)+1 else mark A) g hb/\Touch (Fe d L g hb) w f:=by
 obtain⟨J,c⟩:=h.box;have C:=h.lfr;rw[decide_eq_false l]at c;obtain⟨X,Y,Z,aa,f0,f1,f2,f3⟩:=CS c;have v:=y9 d L g off 1 (fP gZ len.lf) (fP gZ J) w H c O U O U;have n:=Ac v;obtain⟨r,e,T,G,u⟩:=h.blk;obtain⟨B,F,s,t,I⟩:=u (off/64) O;have M:w.cell? (Δ g (66*(off/64)+64))=iC (fD B (len (off/64)) F):=by rw[cell_of_row w g _ r _ (0,0) e];exact s
 have N:w.frozen? (Δ g (66*(off/64)+65))=jw:=by simp[Jg,e]
 have P:w.cell? (Δ g (66*(off/64)+65))=iC (fP gZ (mark (off/64):Int)):=by rw[cell_of_row w g _ r _ (0,0) e];exact t
 rw[show 66*(off/64)+64=off/64*66+64 by omega]at M;rw[show 66*(off/64)+65=off/64*66+65 by omega]at N P;have x:=h.mark (i:=off/64) O (len (off/64)+1) (Ae _);have y:=(Touch.refl (Fe d L g hb) w).setCell (p:=Δ g (66*(off/64)+65)) (.inl (.inr (.inl rfl))) (fP gZ ((len (off/64)+1:Nat):Int));have q:=Ac x;have a:=Ac y;clear v h c G u I e s t x y;go_enter func106,ntmps106
 go_wp2_with fail
 refine n.mono ?_;rintro j f⟨rfl,rfl⟩;clear n
 go_wp2_with fail
 rw[show off/64*66=66*(off/64)by omega,show((len (off/64):Int)+1)=((len (off/64)+1:Nat):Int)by omega];have b:=q.out;have k:=a.out;clear q a;generalize w.setCell (Δ g (66*(off/64)+65)) (fP gZ ((len (off/64)+1:Nat):Int))=W at b k⊢;obtain⟨K,m⟩:=b.box;rw[decide_eq_false l]at m;have o:=Ac (VZ d g L len.lf K _ l C m);have D:=Ac b;have a:=Ac k;clear b k m;refine o.mono ?_;rintro j f⟨rfl,z,V,E⟩;clear o
 go_wp2_with fail
 go_ret;exact⟨rfl,D.step z E,a.trans z (λQ h=>.inl (.inl h))⟩
def yC(A:Option Addr)(c:Nat)(w:jD):
 Calls prog 151 #[fD A 0 c] w λi m=>∃f,i=gY (fD f 0 0)/\η w m:=by
 rcases A with _|d
 ·have l:=λb=>J7 (P:=prog) b 206 259 none 0 c 0 0 underlying206
  go_enter func151,ntmps151;go_wp2;go_ret;exact⟨_,rfl,Below.refl _ _⟩
 ·have l:=λb=>J7 (P:=prog) b 206 259 (iC d) 0 c 0 0 underlying206
  obtain⟨a,k,n,o,p⟩:∃a,prog.info? 259=iC a/\a.zero=iC (.agg #[fP gZ 0,fP ig 0])/\a.size=2/\a.bytes=16:=by
   have j:(prog.info? 259).map (λa=>(a.zero,a.size,a.bytes))=iC (iC (.agg #[fP gZ 0,fP ig 0]),2,16):=by kernel_rfl
   exact info_parts j
  have e:(Builtin.append_ #[206,206] 206 #[fD (iC (Φ w.heap.size)) 0 0,fD (iC d) 0 c]).run prog (w.alloc (iy #[] 259))=.ok (fD (iC (Φ w.heap.size)) 0 0) (w.alloc (iy #[] 259)):=by
   simp[Builtin.append_,run_underlying underlying206,sizeOf,typeInfo,k,Builtin.lenOf,Builtin.firstCells,loadCells,loadCellsFrom,storeCells]
  have g:=Ac e;clear e;go_enter func151,ntmps151
  go_wp2_with(at_builtin;go_loud(refine FT _ rfl (.tmp 5) (.tmp 6) 206 206 rfl (fD (iC (Φ w.heap.size)) 0 0) (fD (iC d) 0 c) rfl rfl _ _ g.out ?_))
  go_ret;exact⟨_,rfl,(Below.refl _ _).alloc (Ae _) _⟩
def CY.clear{w:jD}{d L:Nat}{ws:Nat->UInt64}{len:Mode}{mark:Nat->Nat}{g:Nat}{hb:Nat->Option Nat}(h:CY w d L ws len mark g hb){i:Nat}(hi:i<L){l:jD}(k:η w l)(B:Option Addr):
 CY ((l.setCell (Δ g (66*i+64)) (fD B 0 0)).setCell (Δ g (66*i+65)) (fP gZ 0)) d L ws (len.wipe i) (λk=>if k=i then 0 else mark k) g (λk=>if k=i then none else hb k):=by
 have E:(len.wipe i).YR i=[]:=jM rfl;have F:∀k,k≠i->(len.wipe i).YR k=len.YR k:=λk a=>ku a
 have h:=h.below k;have q:∀b,b≠g->((l.setCell (Δ g (66*i+64)) (fD B 0 0)).setCell (Δ g (66*i+65)) (fP gZ 0)).heap[b]?=l.heap[b]?:=λb f=>(Below.heap_setCell _ (Δ g (66*i+65)) _ b f).trans (Below.heap_setCell l (Δ g (66*i+64)) _ b f)
 obtain⟨st,y⟩:=h.box;obtain⟨cur,C,G,t,u⟩:=h.blk;refine⟨⟨st,(q d (λa=>h.gd a.symm)).trans y⟩,h.lfr,h.gd,⟨_,FW _ (FW _ C),by rw[H9,H9];exact G,λe j k D=>?_,λe j=>?_⟩,λe j b f=>?_,λn b v f x H m=>?_,λe j=>?_⟩
 ·rw[AZ,ku O,AZ,ku O];exact t e j k D
 ·obtain⟨A,c,r,s,z⟩:=u e j;by_cases a:e=i
  ·subst a;refine⟨B,0,?_,?_,.inl ⟨jM rfl,E,rfl⟩⟩
   ·rw[AZ,ku O,AZ,jM rfl,jM O,Mode.ZN,jM rfl]
   ·rw[AZ,jM rfl,jM (by rw[H9];omega),jM rfl];rfl
  ·refine⟨A,c,?_,?_,?_⟩
   ·rw[AZ,ku O,AZ,ku O,Mode.ZN,ku a];exact r
   ·rw[AZ,ku O,AZ,ku O,ku a];exact s
   ·rw[F _ a,ku a];exact z.keep (λb f _=>q b (h.bd e j b f).1)
 ·by_cases a:e=i
  ·rw[jM a]at f;cases f
  ·rw[ku a]at f;exact h.bd e j b f
 ·by_cases o:n=i
  ·rw[jM o]at m;cases m
  ·rw[ku o]at m;by_cases p:b=i
   ·rw[jM p];exact λI=>by cases I
   ·rw[ku p];exact h.inj n b v f x H m
 ·show(if e=i then 0 else mark e)<=(len.wipe i).len e+1;by_cases a:e=i
  ·rw[jM a];omega
  ·rw[ku a,Mode.ZN,ku a];exact h.mrk e j
