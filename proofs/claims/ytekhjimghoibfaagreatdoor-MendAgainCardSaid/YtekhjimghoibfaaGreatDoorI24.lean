import Derived.Deep.DeepCutAuto
import Derived.Test.YtekhjimghoibfaaGreatDoorI23
set_option linter.defProp false
set_option maxHeartbeats 32000000
set_option maxRecDepth 100000
open Int renaming toNat_natCast->BU
open Nat renaming mul_div_cancel_left->nI,le_refl->Ad,lt_of_lt_of_le->BI,le_trans->Bi
open UInt64 renaming ofNat->Aj,toNat->NH,toNat_inj->DK
open List renaming map_cons->Ci,mem_cons->Ea,reverse_append->UG,reverse_singleton->Rn,singleton_append->TA,getElem?_eq_getElem->Ae,getElem_mem->BH,mem_singleton->BG,length_append->AY,mem_append->AL,map_append->Dc,getElem_toArray->Aq,getElem_cons_zero->Ah,setIfInBounds_toArray->Af,set_cons_zero->Ap,set_cons_succ->Au,getElem_cons_succ->Am
open Array renaming getElem?_eq_some_iff->AA
open Go.Lib renaming hid->Aa
namespace Go.Proofs.YtekhjimghoibfaaGreatDoor
open Go.Proofs.Tryz
def Gd(X:Nat->Prop)(L:Nat)(s0:St)(items:List Kv)(New:List Kv->Prop)(ws':Nat->UInt64):Prop:=∃its,(its=items\/New its)/\Fnd X L s0 its ws'
section
variable{X:Nat->Prop}{L:Nat}{s0 s:St}{items:List Kv}{j:Jb}{B:List Nat}{New:List Kv->Prop}
def yQ{Good:(Nat->UInt64)->Prop}(lf:Int)(e d:Int)(c:UInt64)(g:List Int)(m:Good j.s.ws)(o:e≠0->∀k,Good (Ez j.s (j.made.take k)).ws)
 (i:e=0->∀k,Good (Ez {j.s with ws:=D9 j.s.ws (d.toNat/8) c} (g.take k)).ws):aN Good (Ey (nz lf j) e d c g) (EI j e d c g):=by
 unfold Ey EI;by_cases b:e=0
 ·subst b;simp only[ne_eq,not_true_eq_false,if_false];rcases Tm (s:=j.s) (lf:=lf) (d.toNat/8) c m (i rfl 0)with⟨l,a⟩|a
  ·rw[show(nz lf j).s=⟨.up lf,j.s⟩from rfl,a];simp only[if_true];exact aQ _ _ (i rfl)
  ·right;rw[show(nz lf j).s=⟨.up lf,j.s⟩from rfl];generalize Lj _ _ _=n at a⊢;obtain⟨q,p⟩:=n;simp only at a⊢;split
   ·exact QH _ _ a
   ·exact PZ _ a
 ·rw[if_pos b,if_pos b];rcases iR j.made (s:=j.s) (lf:=lf) (o b)with⟨l,a⟩|a
  ·exact .inl ⟨l,by rw[show(nz lf j).s=⟨.up lf,j.s⟩from rfl,show(nz lf j).made=j.made from rfl,a]⟩
  ·exact .inr a
def iU(h:IW X L s0 items)(g:Grown L s0 j B)(k:Nat):Fnd X L s0 items (Ez j.s (j.made.take k)).ws:=by
 obtain⟨t,i,r,q,p,m,n,l⟩:=lq h.ok g;obtain⟨o,e,d,c⟩:=aT j.made k g.ok g.nh;rw[i]at e d c;exact found h (Ij.refl _ _) o (e.trans l) (m.trans c) (λb a=>(d b a).trans (n b a)) (Gi _)
def yR(g:Grown L s0 j B){a:Nat}(t:a<16\/16+s0.sh.BQ<=a){b:UInt64}{c:List Int}{its:List Kv}(hF:IW X L (Ez {j.s with ws:=D9 j.s.ws a b} c) its)(l:Ij X s0 (Ez {j.s with ws:=D9 j.s.ws a b} c))(k:Nat):
 Fnd X L s0 its (Ez {j.s with ws:=D9 j.s.ws a b} (c.take k)).ws:=by
 have p:Bq L {j.s with ws:=D9 j.s.ws a b}:=g.ok.words (λu i=>by
  unfold D9;rw[if_neg];rw[g.sh]at i;omega)
 obtain⟨q,r,n,m⟩:=aT c k p (λo d e=>g.nh o d e);exact found hF l q r m n (Gi _)
def VD{R:Jm×UInt64×Int}{r:Jb×UInt64×Int}(c:Ahy (Fnd X L s0 items) R r)(h:IW X L s0 items)(g:Grown L s0 r.1 B)(a:Int)(b:List Int)(m:a.toNat/8<16\/16+s0.sh.BQ<=a.toNat/8)
 (hF:r.2.2=0->∃its,(its=items\/New its)/\IW X L (EI r.1 r.2.2 a r.2.1 b).1 its/\Ij X s0 (EI r.1 r.2.2 a r.2.1 b).1):
 aN (Gd X L s0 items New) (Ey R.1 R.2.2 a R.2.1 b) (EI r.1 r.2.2 a r.2.1 b):=by
 rcases c with⟨lf,rfl⟩|c
 ·refine yQ lf r.2.2 a r.2.1 b ⟨items,.inl rfl,XM h g⟩ (λ_ k=>⟨items,.inl rfl,iU h g k⟩) (λi k=>?_);obtain⟨its,l,d,e⟩:=hF i;have j:(EI r.1 r.2.2 a r.2.1 b).1=Ez {r.1.s with ws:=D9 r.1.s.ws (a.toNat/8) r.2.1} b:=by
   unfold EI;rw[if_neg (by rw[i];simp),aS]
  rw[j]at d e;exact⟨its,l,yR g m d e k⟩
 ·exact .inr (yI (c.mono λws' h=>⟨items,.inl rfl,h⟩) _ _ _ _)
def Xc(h:IW X L s0 items):Gd X L s0 items New s0.ws:=⟨items,.inl rfl,found h (Ij.refl _ _) h.ok rfl (DI.refl _ _) (λ_ _=>rfl) (Gi _)⟩
def Ad3(h:IW X L s items){key:List UInt8}(m:key.length<=16){g:List Pl}{rest:List UInt8}(a:EY s key=some (g,rest)){d:Pl}(b:g.getLast?=some d):d.word.toNat/8<16\/16+s.sh.BQ<=d.word.toNat/8:=by
 by_cases e:s.ws 9=0
 ·unfold EY at a;rw[e,Et,if_pos rfl]at a;injection a with a
  injection a with a _
  rw[<-a]at b;cases b
 ·rcases h.tree with⟨c,_⟩|⟨v,c,i,n,w,x⟩
  ·exact absurd c e
  ·obtain⟨r,z,D,C,E,A,parts,q,B,t,u,o,p,j⟩:=around h.ok c i n key m;rw[p]at a;injection a with a
   injection a with a _
   rw[<-a]at b;simp only[List.getLast?_append,List.getLast?_singleton,Option.some_or,Option.some.injEq]at b;subst b;obtain⟨y,k,_,l,_⟩:=j.word h.ok;rw[k,BU,nI _ U];exact l
def su(h:IW X L s items){key:List UInt8}(A:key.length<=16){c:List Pl}{rest:List UInt8}(a:EY s key=some (c,rest)){m:Nat}{g:Pl}(e:m+1<c.length)(t:c[m]?=some g):g.word.toNat/8<16\/16+s.sh.BQ<=g.word.toNat/8:=by
 by_cases i:s.ws 9=0
 ·unfold EY at a;rw[i,Et,if_pos rfl]at a;injection a with a
  injection a with a _
  rw[<-a]at e;simp at e
 ·rcases h.tree with⟨d,_⟩|⟨p,d,l,j,z,C⟩
  ·exact absurd d i
  ·have B:=KC key;obtain⟨K,J,H,I,F,G,u,v,w,x,D,y,M,b,k,_⟩:=l7 h.ok m (2*key.length+1) 32 (s.ws 9) items p (CG key) 0 72 l j O O d c rest a e;rw[t]at b;injection b with b
   subst b;obtain⟨o,n⟩:=lu h.ok j k;obtain⟨E,q,_,r,_⟩:=n.word h.ok;rw[q,BU,nI _ U];exact r
def iV(h:IW X L s items)(key:List UInt8)(m:key.length<=16)(b:UInt64)(p:b≠0)(lf:Int):
 aN (Gd X L s items (λits=>PY items its (CG key) b)) (Na ⟨.up lf,s⟩ key b) (JD s key b):=by
 have l:=WY h key m b p;have a:∃its,(its=items\/PY items its (CG key) b)/\IW X L (JD s key b).1 its/\Ij X s (JD s key b).1:=by
  obtain⟨q,⟨_,d,_⟩|⟨_,its,d,i⟩⟩:=l
  ·exact⟨items,.inl rfl,d,q⟩
  ·exact⟨its,.inr i,d,q⟩
 clear l;unfold Na;unfold JD at a⊢;simp only[if_neg (show¬16<key.length by omega),if_neg p]at a⊢;cases n:EY s key with
 |none=>exact .inl ⟨lf,rfl⟩
 |some wr=>
  obtain⟨r,c⟩:=wr;rw[n]at a;simp only at a⊢;cases o:CX r c with
  |some e=>
   rw[o]at a;simp only at a⊢;obtain⟨its,d,i,u⟩:=a;exact Tm _ _ (Xc h) ⟨its,d,found i u i.ok rfl (DI.refl _ _) (λ_ _=>rfl) (Gi _)⟩
  |none=>
   rw[o]at a;simp only at a⊢;have g:=Grown.start h.ok h.nh;cases k:r.getLast? with
   |none=>
    rw[k]at a;simp only at a⊢;obtain⟨t,j⟩:=Kz (c.length+1) g c b;exact VD (V8 h (c.length+1) g lf c b) h j 72 [] (.inl U) (λ_=>a)
   |some e=>
    rw[k]at a;simp only at a⊢;obtain⟨t,j⟩:=yM g e.nd c b;exact VD (Ahz h g lf e.nd c b) h j e.word [e.off] (Ad3 h m n k) (λ_=>a)
def Ad4(h:IW X L s items){key:List UInt8}(z:key.length<=16){a:List Pl}{rest:List UInt8}(B:EY s key=some (a,rest))(lf:Int)
 (hF:(Ko ⟨s,[]⟩ a).2≠6->∃its,(its=items\/New its)/\IW X L (Ko ⟨s,[]⟩ a).1 its/\Ij X s (Ko ⟨s,[]⟩ a).1):
 aN (Gd X L s items New) (LX ⟨⟨.up lf,s⟩,[]⟩ a) (Ko ⟨s,[]⟩ a)/\((Ko ⟨s,[]⟩ a).2=6->Gd X L s items New (Ko ⟨s,[]⟩ a).1.ws):=by
 have m:=Grown.start h.ok h.nh;have g:∀(j:Jb)(o:Int)(n:UInt64)(d:List Int),(EI j 0 o n d).2≠6:=λj o n d=>by
  unfold EI;rw[if_neg Θ];rcases XL d {j.s with ws:=D9 j.s.ws (o.toNat/8) n} 0 (.inl rfl)with b|b<;>rw[b]<;>decide
 have l:∀b:Int,aN (Gd X L s items New) (⟨.up lf,s⟩,b) (s,b)/\((s,b).2=(6:Int)->Gd X L s items New (s,b).1.ws):=λb=>⟨.inl ⟨lf,rfl⟩,λ_=>Xc h⟩
 unfold LX;unfold Ko at hF⊢;cases y:Hg a (a.length-1) [(a.getLast?.map (·.off)).getD 0]with
 |mk e d=>
  rw[y]at hF;cases e with
  |zero=>
   simp only at hF⊢;exact⟨VD (R:=(nz lf ⟨s,[]⟩,0,0)) (r:=(⟨s,[]⟩,0,0)) (.inl ⟨lf,rfl⟩) h m 72 d (.inl U) (λ_=>hF (g _ _ _ _)),λb=>absurd b (g _ _ _ _)⟩
  |succ e=>
   simp only at hF⊢;cases t:a[e]? with
   |none=>exact l 5
   |some c=>
    cases u:a[e+1]? with
    |none=>exact l 5
    |some v=>
     rw[t,u]at hF;simp only at hF⊢;cases w:Jk c.nd.labels v.label with
     |none=>exact l 5
     |some k=>
      rw[w]at hF;simp only at hF⊢;cases x:Cf c.nd with
      |false=>exact l 5
      |true=>
       rw[x]at hF;simp only[if_true]at hF⊢;have A:e+1<a.length:=(List.getElem?_eq_some_iff.1 u).1;obtain⟨C,q⟩:=KH m (Ru c.nd k);refine⟨VD (Tn h m lf (Ru c.nd k)) h q c.word (d++[c.off]) (su h z B A t) (λi=>hF ?_),λp=>?_⟩
       ·rw[i];exact g _ _ _ _
       ·by_cases i:(FY ⟨s,[]⟩ (Ru c.nd k)).2.2=0
        ·rw[i]at p;exact absurd p (g _ _ _ _)
        ·have:=iU h q (FY ⟨s,[]⟩ (Ru c.nd k)).1.made.length;rw[List.take_length]at this;unfold EI;rw[if_pos i];exact⟨items,.inl rfl,this⟩
def Ad5(h:IW X L s items)(key:List UInt8)(w:key.length<=16)(lf:Int):
 (∃A,Ox ⟨.up lf,s⟩ key=(⟨.up A,(QX s key).1⟩,(QX s key).2))\/Dn (Gd X L s items (λits=>V6 items its (CG key))) (Ox ⟨.up lf,s⟩ key).1:=by
 have v:=lF h key w;have a:∃its,(its=items\/V6 items its (CG key))/\IW X L (QX s key).1 its/\Ij X s (QX s key).1:=by
  rcases v with⟨o,_⟩|⟨E,_,_,its,B,C⟩
  ·rw[o];exact⟨items,.inl rfl,h,Ij.refl _ _⟩
  ·exact⟨its,.inr C,B,E⟩
 clear v;unfold Ox;unfold QX at a⊢;simp only[if_neg (show¬16<key.length by omega)]at a⊢;cases x:EY s key with
 |none=>exact .inl ⟨lf,rfl⟩
 |some wr=>
  obtain⟨q,F⟩:=wr;rw[x]at a;simp only at a⊢;cases D:CX q F with
  |none=>exact .inl ⟨lf,rfl⟩
  |some d=>
   rw[D]at a;simp only at a⊢;by_cases n:d.nd.val=0
   ·rw[if_pos n,if_pos n];exact .inl ⟨lf,rfl⟩
   ·rw[if_neg n]at a;rw[if_neg n,if_neg n];by_cases l:d.nd.kids.length=0
    ·rw[if_pos l]at a;rw[if_pos l,if_pos l];obtain⟨y,i⟩:=Ad4 (New:=λits=>V6 items its (CG key)) h w x lf (λi=>by
      generalize Ko ⟨s,[]⟩ q=g at a i⊢;obtain⟨s1,o⟩:=g;simp only at a i⊢;rw[if_neg i]at a;split at a<;>exact a)
     generalize Ko ⟨s,[]⟩ q=g at a y i⊢;obtain⟨s1,o⟩:=g;simp only at a i⊢;rcases y with⟨p,j⟩|j
     ·rw[j];simp only;by_cases k:o=6
      ·rw[if_pos k]at a;rw[if_pos k,if_pos k];obtain⟨its,r,m,t⟩:=a;rcases Tm (s:=s1) (lf:=p) (d.off.toNat/8+2) 0 (i k) (⟨its,r,found m t m.ok rfl (DI.refl _ _) (λ_ _=>rfl) (Gi _)⟩:Gd X L s items (λits=>V6 items its (CG key)) _)with⟨u,b⟩|b
       ·left;refine⟨u,?_⟩;show(match Lj ⟨.up p,s1⟩ 3 (D9 s1.ws (d.off.toNat/8+2) 0)with|(e,c)=>if c=0 then(e,d.nd.val,0)else(e,0,c))=_;rw[b];rfl
       ·right;show Dn _ (match Lj ⟨.up p,s1⟩ 3 (D9 s1.ws (d.off.toNat/8+2) 0)with|(e,c)=>if c=0 then(e,d.nd.val,(0:Int))else(e,0,c)).1;generalize Lj _ _ _=g at b⊢;obtain⟨e,c⟩:=g;simp only at b⊢;split<;>exact b
      ·rw[if_neg k,if_neg k];split<;>exact .inl ⟨p,rfl⟩
     ·right;generalize LX ⟨⟨.up lf,s⟩,[]⟩ q=g at j⊢;obtain⟨z,G⟩:=g;simp only at j⊢;split
      ·have b:Dn _ (LW z d 0).1:=aO j 3 _;generalize LW z d 0=g at b⊢;obtain⟨e,c⟩:=g;simp only at b⊢;split<;>exact b
      ·split<;>exact j
    ·rw[if_neg l]at a;rw[if_neg l,if_neg l];simp only[if_true]at a⊢;obtain⟨its,r,m,t⟩:=a;rcases Tm (s:=s) (lf:=lf) (d.off.toNat/8+2) 0 (Xc h) (⟨its,r,found m t m.ok rfl (DI.refl _ _) (λ_ _=>rfl) (Gi _)⟩:Gd X L s items (λits=>V6 items its (CG key)) _)with⟨u,b⟩|b
     ·left;refine⟨u,?_⟩;show(match Lj ⟨.up lf,s⟩ 3 (D9 s.ws (d.off.toNat/8+2) 0)with|(e,c)=>if c=0 then(e,d.nd.val,0)else(e,0,c))=_;rw[b];rfl
     ·right;show Dn _ (match Lj ⟨.up lf,s⟩ 3 (D9 s.ws (d.off.toNat/8+2) 0)with|(e,c)=>if c=0 then(e,d.nd.val,(0:Int))else(e,0,c)).1;generalize Lj _ _ _=g at b⊢;obtain⟨e,c⟩:=g;simp only at b⊢;split<;>exact b
end
def Found(L:Nat)(s:St)(G:UInt64->List Kv->(List UInt8->List Lk)->Prop)(ws':Nat->UInt64):Prop:=
 (∀j,j<8->ws' j=s.ws j)/\∃Y b a,G (ws' 8) b a/\D5 Y L (Fp ws' s.sh) b a
section
variable{Y Z:Nat->Prop}{L:Nat}{s s1 t:St}{items its:List Kv}{ch c':List UInt8->List Lk}{ws':Nat->UInt64}{G f:UInt64->List Kv->(List UInt8->List Lk)->Prop}
def Found.from(h:Found L s1 G ws')(i:s1.sh=s.sh)(g:∀j,j<8->s1.ws j=s.ws j):Found L s G ws':=by
 obtain⟨c,Y,k,b,d,e⟩:=h;exact⟨λj a=>(c j a).trans (g j a),Y,k,b,d,i▸e⟩
def D5.into(_:D5 Y L s items ch)(ix:IW Z L t its)(m:Ij (λo=>(∃kv∈items,o∈Dz (ch kv.1))\/Y o) s t)(i:∀o,((∃kv∈items,o∈Dz (ch kv.1))\/Y o)->Z o)
 (d:∀kv∈its,Dh s kv.2 (c' kv.1)/\kv.2≠0/\∀o∈Dz (c' kv.1),(∃kv∈items,o∈Dz (ch kv.1))\/Y o)(l:∀k,(∀kv∈its,kv.1≠k)->c' k=[])(j:∀kv∈its,∀kv'∈its,kv.1≠kv'.1->∀o∈Dz (c' kv.1),o∉Dz (c' kv'.1)):
 D5 (λo=>Z o/\¬∃kv∈its,o∈Dz (c' kv.1)) L t its c':=by
 refine⟨ix.congr λo=>⟨λb=>?_,λb=>?_⟩,λkv a=>⟨(d kv a).1.keep m.keep (λo c=>(d kv a).2.2 o c),(d kv a).2.1⟩,l,j,λkv a o c g=>g.2 ⟨kv,a,c⟩⟩
 ·by_cases e:∃kv∈its,o∈Dz (c' kv.1)
  ·exact .inl e
  ·exact .inr ⟨b,e⟩
 ·rcases b with⟨kv,a,c⟩|⟨b,_⟩
  ·exact i o ((d kv a).2.2 o c)
  ·exact b
def aY(h:D5 Y L s items ch)(g:Bq L s1)(sh:s1.sh=s.sh)(k:DI s s1 (λ_=>True))(l:∀j,j<16->s1.ws j=s.ws j)(c:aK s1 ws')(i:G (s.ws 8) items ch):Found L s G ws':=by
 obtain⟨e,_,d⟩:=Tj g c;rw[sh]at e d;have a:∀j,j<16->ws' j=s.ws j:=λj b=>(c.low g j O).trans (l j b)
 exact⟨λj b=>a j O,_,items,ch,by rw[a 8 U];exact i,h.again e (Y5 _ _) (k.trans d) (a 9 U) (λ_=>Iff.rfl)⟩
def Og(h:D5 Y L s items ch)(a:G (s.ws 8) items ch):Found L s G s.ws:=aY h h.ix.ok rfl (DI.refl _ _) (λ_ _=>rfl) (Gi s) a
def Xd(h:D5 Y L s items ch)(m:Fnd (λo=>(∃a∈items,o∈Dz (ch a.1))\/Y o) L s its ws')
 (i:∀a∈its,Dh s a.2 (c' a.1)/\a.2≠0/\∀o∈Dz (c' a.1),(∃a∈items,o∈Dz (ch a.1))\/Y o)(n:∀k,(∀a∈its,a.1≠k)->c' k=[])(l:∀a∈its,∀c∈its,a.1≠c.1->∀o∈Dz (c' a.1),o∉Dz (c' c.1))(e:G (s.ws 8) its c'):Found L s G ws':=by
 obtain⟨Z,g,p,b⟩:=m;have d:ws' 8=s.ws 8:=b.low 8 U U;exact⟨λj q=>b.low j O O,_,its,c',by rw[d];exact e,h.into p b g i n l⟩
def aZ(h:D5 Y L s items ch)(d:Fnd (λo=>(∃a∈items,o∈Dz (ch a.1))\/Y o) L s items ws')(c:G (s.ws 8) items ch):Found L s G ws':=
 Xd h d (λa b=>⟨(h.chain a b).1,(h.chain a b).2,λ_ e=>.inl ⟨a,b,e⟩⟩) h.none h.TT c
def yS(h:D5 Y L s items ch)(u:UInt64)(n:G u items ch):Found L s G (D9 s.ws 8 u):=by
 have c:∀j,j≠8->D9 s.ws 8 u j=s.ws j:=λj b=>by unfold D9;rw[if_neg b]
 have k:D9 s.ws 8 u 8=u:=by unfold D9;rw[if_pos rfl]
 obtain⟨s1,a⟩:∃s1,s1=({s with ws:=D9 s.ws 8 u}:St):=⟨_,rfl⟩;have q:Bq L s1:=by rw[a];exact h.ix.ok.words (λt r=>c _ O)
 have p:DI s s1 (λ_=>True):=λo d _ e=>⟨by rw[a];exact e,λj b=>by
  have:=h.ix.ok.Dy (e.bounds h.ix.ok).1 b;rw[a];exact c j O⟩
 obtain⟨i,_,g⟩:=Tj q (Gi s1);have l:s1.sh=s.sh:=by rw[a]
 have m:s1.ws=D9 s.ws 8 u:=by rw[a]
 rw[l,m]at i g;exact⟨λj b=>c j O,_,items,ch,by rw[k];exact n,h.again i (Y5 _ _) (p.trans g) (c 9 U) (λ_=>Iff.rfl)⟩
end
def getD(q:Ms)(key:List UInt8):UInt64×Int:=match q.pw with
 | .up _=>GH q.s key
 | .down _=>(0,12)
def TF(q:Ms)(key:List UInt8)(v:UInt64):Ms×Int:=match q.pw with
 | .up _=>Na q key v
 | .down _=>(q,12)
def sD(q:Ms)(key:List UInt8):Ms×UInt64×Int:=match q.pw with
 | .up _=>Ox q key
 | .down _=>(q,0,12)
def writeM(q:Ms)(stamp:UInt64)(a:Wr):Ms×UInt64×UInt64×Int:=
 match getD q a.key.data.toList with
 |(d,b)=>if b≠0/\b≠7 then(q,0,0,b)else if a.gone=true/\d=0 then(q,0,0,0)else
  match I9 q ⟨stamp,d,a.gone,a.text⟩with
  |(i,c,e)=>if e≠0 then(i,0,0,e)else
   match TF i a.key.data.toList c with
   |(j,g)=>if g≠0 then((Eh j (Bg c)).1,0,0,g)else(j,d,c,0)
section
variable{Y Z:Nat->Prop}{L:Nat}{s s1 t:St}{items its:List Kv}{ch c':List UInt8->List Lk}{ws':Nat->UInt64}{G:UInt64->List Kv->(List UInt8->List Lk)->Prop}
def lM{Good:(Nat->UInt64)->Prop}{q:Ms}(h:Dn Good q):∃a,q.pw=.down a:=by
 obtain⟨a,b,_⟩:=h;exact⟨a,b⟩
def Ale{Good:(Nat->UInt64)->Prop}{q:Ms}(h:Dn Good q)(key:List UInt8)(v:UInt64):TF q key v=(q,12):=by
 obtain⟨b,a⟩:=lM h;unfold TF;rw[a]
def D5.added(h:D5 Y L s items ch)(r:Rc)(m:DN r=true):Iq s r=(s,0,6)\/∃s1 o,Iq s r=(s1,Aj o,0)/\(∀d t,CP s 1=some (d,t)->(GV {t with ws:=BK t.ws (d/8) (CW r)} d).2=0)/\D5 (λp=>Y p\/p=o) L s1 items ch/\
 o<=65536/\0<o/\AO s1 o 1/\wordsAt s1.ws (o/8) 8=CW r/\DI s s1 (λ_=>True)/\s1.sh=s.sh/\(∀j,j<16->s1.ws j=s.ws j)/\¬((∃kv∈items,o∈Dz (ch kv.1))\/Y o):=by
 rcases Ahu h.ix r m with b|⟨s1,o,b,n,w,g,l,i,t1,v,ix,k,u,q⟩
 ·exact .inl b
 ·refine .inr ⟨s1,o,b,n,⟨ix.congr λp=>or_assoc,λkv a=>⟨(h.chain kv a).1.keep k (λ_ _=>trivial),(h.chain kv a).2⟩,h.none,h.TT,λkv a p e c=>?_⟩,l,i,t1,v,k,u,q,g⟩;rcases c with c|rfl
  ·exact h.loose kv a p e c
  ·exact g (.inl ⟨kv,a,e⟩)
def Alf(h:D5 Y L s items ch)(r:Rc)(m:DN r=true)(lf:Int)(B:G (s.ws 8) items ch):
 (∃H,I9 ⟨.up lf,s⟩ r=(⟨.up H,(Iq s r).1⟩,(Iq s r).2))\/Dn (Found L s G) (I9 ⟨.up lf,s⟩ r).1:=by
 have N:=h.added r m;unfold I9;rw[if_neg (by rw[m];exact λb=>nomatch b)];cases x:CP s 1 with
 |none=>
  refine .inl ⟨lf,?_⟩;unfold Iq;rw[if_neg (by rw[m];exact λb=>nomatch b),x]
 |some ab=>
  obtain⟨a,s1⟩:=ab;obtain⟨p,E,I,al,v,_,_,W⟩:=MB h.ix.ok (.inl rfl) x;have P:=v.bounds p;have S:DI s s1 (λ_=>True):=λo d _ V=>⟨(W o d).2 V,λj _=>by rw[E]⟩
  have z:∀ws',Half s1.ws (BK s1.ws (a/8) (CW r)) ws'->Found L s G ws':=λws' X=>aY h p I S (λj _=>by rw[E]) (λj C=>by
   rcases X j with b|b
   ·exact b
   ·rw[b];unfold BK;rw[if_neg];intro l;refine C a 1 v ⟨l.1,?_⟩;have:=l.2;rw[I4]at this;have:Bf 1=1:=rfl;omega) B
  obtain⟨c,n⟩:∃c,c=({s1 with ws:=BK s1.ws (a/8) (CW r)}:St):=⟨_,rfl⟩;have D:(GV c a).2=0:=by
   obtain⟨aw,J,_⟩:=lh (p.words (ws':=BK s1.ws (a/8) (CW r)) (λav aq=>by
    unfold BK;rw[if_neg];intro l;have ao:=l.1;have:=p.sh.KT;have:=P.1;omega)) (show Eo {s1 with ws:=BK s1.ws (a/8) (CW r)} a 1 from v)
   rw[n,J]
  have i:Iq s r=((GV c a).1,Aj a,0):=by
   unfold Iq;rw[if_neg (by rw[m];exact λb=>nomatch b),x];simp only;rw[<-n,if_pos D]
  rcases N with u|⟨af,o,u,ar,Z,ap,an,_,_,_,ah,y,_⟩
  ·rw[u]at i;injection i with _ b
   injection b with _ b
   cases b
  ·have K:af=(GV c a).1:=by
    rw[u]at i;injection i
   have R:Found L s G (GV c a).1.ws:=by
    rw[<-K];exact(Og Z (by rw[y 8 U];exact B)).from ah (λj C=>y j O)
   have Q:Found L s G c.ws:=by
    rw[n];exact z _ (λj=>.inr rfl)
   have q:=yJ (s:=s1) (lf:=lf) (Good:=Found L s G) (JF (a/8) 8) (BK s1.ws (a/8) (CW r)) z;rw[<-n]at q;simp only;obtain⟨⟨ac,am⟩,T⟩:∃k,k=Lj ⟨.up lf,s1⟩ (JF (a/8) 8) (BK s1.ws (a/8) (CW r)):=⟨_,rfl⟩;rw[<-T]at q⊢;rcases q with⟨F,t⟩|g
   ·injection t with t e
    subst t e;simp only[if_true];have A:=rV (s:=c) (lf:=F) (Good:=Found L s G) (a:Int) Q R;obtain⟨⟨ad,b⟩,w⟩:∃k,k=IP ⟨.up F,c⟩ a:=⟨_,rfl⟩;rw[<-w]at A⊢;rcases A with⟨aa,e⟩|g
    ·rw[D]at e;injection e with e M
     subst e M;refine .inl ⟨aa,?_⟩;rw[i];rfl
    ·right;simp only;split
     ·exact g
     ·exact Np g _
   ·right;simp only;split
    ·have:=aP g (a:Int);obtain⟨⟨ad,b⟩,w⟩:∃k,k=IP ac a:=⟨_,rfl⟩;rw[<-w]at this⊢;simp only;split
     ·exact this
     ·exact Np this _
    ·exact Np g _
end
section
variable{Y:Nat->Prop}{L:Nat}{s s1:St}{items items':List Kv}{ch:List UInt8->List Lk}{G:UInt64->List Kv->(List UInt8->List Lk)->Prop}{k:List UInt8}{lk:Lk}{o:Nat}
def Alg(h:D5 Y L s items ch):∀p∈Dz (ch k),∃a∈items,a.1=k/\p∈Dz (ch a.1):=λp c=>by
 by_cases d:∀a∈items,a.1≠k
 ·rw[h.none k d]at c;cases c
 ·obtain⟨a,e⟩:=Classical.not_forall.1 d;obtain⟨g,b⟩:=Classical.not_imp.1 e;have b:=Classical.not_not.1 b;exact⟨a,g,b,by rw[b];exact c⟩
def Ad6(h:D5 Y L s1 items ch)(F:Y o)(K:lk.off=o)(V:DN lk.rc=true)(ac:o<=65536)(ab:0<o)(Z:Dh s1 lk.rc.next (ch k))(W:∀x∈ch k,x.rc.stamp.toNat<lk.rc.stamp.toNat)
 (X:AO s1 o 1)(aa:wordsAt s1.ws (o/8) 8=CW lk.rc)(A:PY items items' k (Aj o)):
 (∀a∈items',Dh s1 a.2 (EK ch k lk a.1)/\a.2≠0/\∀p∈Dz (EK ch k lk a.1),(∃a∈items,p∈Dz (ch a.1))\/Y p)/\(∀l,(∀a∈items',a.1≠l)->EK ch k lk l=[])/\
  (∀a∈items',∀P∈items',a.1≠P.1->∀p∈Dz (EK ch k lk a.1),p∉Dz (EK ch k lk P.1)):=by
 have q:∀a∈items',(a=(k,Aj o))\/(a∈items/\a.1≠k):=λa g=>(A a).1 g
 have U:(k,Aj o)∈items':=(A _).2 (.inl rfl);have s:∀a:Kv,a.1≠k->EK ch k lk a.1=ch a.1:=λa r=>by unfold EK;rw[if_neg r]
 have B:EK ch k lk k=lk::ch k:=by unfold EK;rw[if_pos rfl]
 have z:Dz (lk::ch k)=o::Dz (ch k):=by unfold Dz;rw[Ci,K,BU]
 have M:=Alg (k:=k) h;refine⟨λa g=>?_,λl J=>?_,λm S b H G p i e=>?_⟩
 ·rcases q a g with rfl|⟨y,R⟩
  ·rw[B,z];refine⟨?_,λd=>?_,λp j=>?_⟩
   ·have:=Dh.cons o lk.rc (ch k) X V aa Z W;rw[<-K]at this;exact this
   ·have:=congrArg NH d;rw[Dt O]at this;simp at this;omega
   ·rcases Ea.1 j with rfl|j
    ·exact .inr F
    ·obtain⟨a,u,_,v⟩:=M p j;exact .inl ⟨a,u,v⟩
  ·rw[s a R];exact⟨(h.chain a y).1,(h.chain a y).2,λp j=>.inl ⟨a,y,j⟩⟩
 ·have r:l≠k:=λd=>J _ U d.symm
  unfold EK;rw[if_neg r];exact h.none l (λa g d=>J a ((A a).2 (.inr ⟨g,by rw[d];exact r⟩)) d)
 ·have N:∀c:Kv,c∈items->c.1≠k->∀p,p∈Dz (ch c.1)->p∈o::Dz (ch k)->False:=λc I T p E w=>by
   rcases Ea.1 w with rfl|w
   ·exact h.loose c I _ E F
   ·obtain⟨a,u,Q,v⟩:=M p w;exact h.TT c I a u (by rw[Q];exact T) p E v
  rcases q m S with rfl|⟨C,D⟩
  ·rcases q b H with rfl|⟨t,n⟩
   ·exact G rfl
   ·rw[B,z]at i;rw[s b n]at e;exact N b t n p e i
  ·rw[s m D]at i;rcases q b H with rfl|⟨t,n⟩
   ·rw[B,z]at e;exact N m C D p i e
   ·rw[s b n]at e;exact h.TT m C b t G p i e
def Ad7(h:D5 Y L s items ch)(stamp:UInt64)(a:Wr)(hy:Dx a=true)(aD:stamp.toNat≠0)(aE:∀x∈ch (CG a.key.data.toList),x.rc.stamp.toNat<stamp.toNat)(lf:Int)(B:G (s.ws 8) items ch)
 (an:∀(o:Nat)(v:UInt64)(its:List Kv),PY items its (CG a.key.data.toList) (Aj o)->G (s.ws 8) its (EK ch (CG a.key.data.toList) ⟨o,⟨stamp,v,a.gone,a.text⟩⟩)):
 (∃X,writeM ⟨.up lf,s⟩ stamp a=(⟨.up X,(Gq s stamp a).1⟩,(Gq s stamp a).2))\/Dn (Found L s G) (writeM ⟨.up lf,s⟩ stamp a).1:=by
 have l:a.key.data.toList.length<=16/\a.text.size<=40/\(a.gone=true->a.text.size=0):=by
  unfold Dx at hy;simp only[Bool.and_eq_true,decide_eq_true_eq,Bool.or_eq_true,Bool.not_eq_true']at hy;exact⟨hy.1.1,hy.1.2,λu=>hy.2.resolve_left (by rw[u];simp)⟩
 have aq:∃v b,GH s a.key.data.toList=(v,b)/\Dh s v (ch (CG a.key.data.toList)):=by
  rcases lI h.ix a.key.data.toList l.1 with⟨v,b,ar,a7⟩|⟨b,av⟩
  ·exact⟨v,0,b,(h.chain _ ar).1⟩
  ·exact⟨0,7,b,by rw[h.none _ av];exact .nil⟩
 obtain⟨v,b,u,ap⟩:=aq;unfold writeM Gq;rw[show getD ⟨.up lf,s⟩ a.key.data.toList=(v,b)from u,u];simp only;by_cases r:b≠0/\b≠7
 ·rw[if_pos r,if_pos r];exact .inl ⟨lf,rfl⟩
 rw[if_neg r,if_neg r];by_cases t:a.gone=true/\v=0
 ·rw[if_pos t,if_pos t];exact .inl ⟨lf,rfl⟩
 rw[if_neg t,if_neg t];have E:DN ⟨stamp,v,a.gone,a.text⟩=true:=(KD _).2 ⟨aD,l.2.1,l.2.2⟩;have am:=Alf h ⟨stamp,v,a.gone,a.text⟩ E lf B;rcases am with⟨m,ac⟩|c
 ·rw[ac];rcases h.added ⟨stamp,v,a.gone,a.text⟩ E with A|⟨s1,o,A,_,k,aR,aw,aH,aM,N,S,w,M⟩
  ·rw[A];simp only;rw[if_pos U,if_pos U];exact .inl ⟨m,rfl⟩
  ·rw[A];simp only[ne_eq,not_true_eq_false,if_false];have K:Aj o≠0:=λb=>by
    have:=congrArg NH b;rw[Dt O]at this;simp at this;omega
   have H:s1.ws 8=s.ws 8:=w 8 U;have I:∀ws',Gd (λp=>(∃e∈items,p∈Dz (ch e.1))\/(Y p\/p=o)) L s1 items (λits=>PY items its (CG a.key.data.toList) (Aj o)) ws'->Found L s G ws':=λws' aL=>by
    refine Found.from (s1:=s1) ?_ S (λj g=>w j O);obtain⟨its,rfl|d,J⟩:=aL
    ·exact aZ k J (by rw[H];exact B)
    ·obtain⟨f1,f2,f3⟩:=Ad6 (lk:=⟨o,⟨stamp,v,a.gone,a.text⟩⟩) k (.inr rfl) rfl E aR aw (ap.keep N (λ_ _=>trivial)) aE aH aM d;exact Xd k J f1 f2 f3 (by rw[H];exact an o v its d)
   have ao:=iV k.ix a.key.data.toList l.1 (Aj o) K m;have aB:TF ⟨.up m,s1⟩ a.key.data.toList (Aj o)=Na ⟨.up m,s1⟩ a.key.data.toList (Aj o):=rfl;rw[aB];rcases ao with⟨Q,ad⟩|c
   ·rw[ad];obtain⟨i,D⟩:=WY k.ix a.key.data.toList l.1 (Aj o) K;generalize JD s1 a.key.data.toList (Aj o)=a4 at i D⊢;obtain⟨R,Z⟩:=a4;simp only at i D⊢;rcases D with⟨rfl,n,_⟩|⟨rfl,its,n,d⟩
    ·simp only[show¬(6:Int)=0 by decide,not_false_eq_true,if_true];have W:Found L s G R.ws:=I _ ⟨items,.inl rfl,found n i n.ok rfl (DI.refl _ _) (λ_ _=>rfl) (Gi _)⟩;have az:Bg (Aj o)=o:=Jq O;obtain⟨F,aa,a0,a1,a5,T⟩:=lD n (o:=o) (.inr (.inr rfl));have V:Found L s G (Fj R (Bg (Aj o))).1.ws:=by
      rw[az,aa];have a2:DI s F (λp=>(∃e∈items,p∈Dz (ch e.1))\/Y p):=λp z d aG=>by
       obtain⟨u1,u2⟩:=N p z trivial aG;obtain⟨u3,u4⟩:=i.keep p z (d.imp id .inl) u1;obtain⟨u5,u6⟩:=a1 p z (λb=>M (b▸d)) u3;exact⟨u5,λj g=>((u6 j g).trans (u4 j g)).trans (u2 j g)⟩
      have al:D5 Y L F items ch:=⟨a0.congr λp=>⟨λ⟨af,ah⟩=>af.imp id (λq=>q.resolve_right ah),λq=>⟨q.imp id .inl,λb=>M (b▸q)⟩⟩,
       λe C=>⟨(h.chain e C).1.keep a2 (λp d=>.inl ⟨e,C,d⟩),(h.chain e C).2⟩,h.none,h.TT,h.loose⟩
      have P:∀j,j<9->F.ws j=s.ws j:=λj g=>(T j O).trans ((i.low j O O).trans (w j O))
      exact(Og al (by rw[P 8 U];exact B)).from (a5.trans (i.sh.trans S)) (λj g=>P j O)
     rcases V7 (lf:=Q) (Bg (Aj o)) W V with⟨a3,ab⟩|c
     ·rw[ab];exact .inl ⟨a3,rfl⟩
     ·exact .inr c
    ·simp only[not_true_eq_false,if_false];exact .inl ⟨Q,rfl⟩
   ·right;have c:=c.mono I;generalize Na ⟨.up m,s1⟩ a.key.data.toList (Aj o)=y at c⊢;obtain⟨a9,Z⟩:=y;simp only at c⊢;split
    ·exact Np c _
    ·exact c
 ·right;generalize I9 ⟨.up lf,s⟩ ⟨stamp,v,a.gone,a.text⟩=y at c⊢;obtain⟨a8,pl,a6⟩:=y;simp only at c⊢;split
  ·exact c
  ·rw[Ale c];simp only;rw[if_pos U];exact Np c _
def Ah5{Good:(Nat->UInt64)->Prop}{q:Ms}(h:Dn Good q)(stamp:UInt64)(b:Wr):writeM q stamp b=(q,0,0,12):=by
 obtain⟨c,a⟩:=lM h;unfold writeM getD;rw[a];simp only;rw[if_pos U]
end
def KI(q:Ms)(key:List UInt8)(v:UInt64):Ms×Int:=if v=0 then((sD q key).1,(sD q key).2.2)else TF q key v
def Jr(q:Ms)(p:Past):Ms×Int:=
 if p.2.2=0 then(q,0)else if(KI q p.1.data.toList p.2.1).2≠0 then KI q p.1.data.toList p.2.1 else((Eh (KI q p.1.data.toList p.2.1).1 (Bg p.2.2)).1,0)
def QS(q:Ms):List Past->Ms
 |[]=>q
 |p::a=>if(Jr q p).2≠0 then(Jr q p).1 else QS (Jr q p).1 a
def Ah6{Good:(Nat->UInt64)->Prop}{q:Ms}(h:Dn Good q)(key:List UInt8)(v:UInt64):KI q key v=(q,12):=by
 obtain⟨b,a⟩:=lM h;unfold KI sD TF;rw[a];simp only;split<;>rfl
def bf{Good:(Nat->UInt64)->Prop}:∀(l:List Past){q:Ms},Dn Good q->QS q l=q
 |[],_,_=>rfl
 |p::l,q,h=>by
  have c:=Ah6 h p.1.data.toList p.2.1;have b:Jr q p=(q,0)\/Jr q p=(q,12):=by
   unfold Jr;rw[c];split
   ·exact .inl rfl
   ·exact .inr rfl
  rw[QS];rcases b with a|a
  ·rw[a,if_neg Θ];exact bf l h
  ·rw[a,if_pos (show(12:Int)≠0 by decide)]
section
variable{L:Nat}{s:St}{items items':List Kv}{ch:List UInt8->List Lk}{G:UInt64->List Kv->(List UInt8->List Lk)->Prop}
def Ah7{s0:St}(l:Ce L s0 items ch){key:ByteArray}(S:key.size<=16){lk:Lk}{o:Nat}(T:lk.off=o)(aL:0<o)(aM:o<=65536)(g:PY items items' (CG key.data.toList) (Aj o))(h:Ce L s items' (EK ch (CG key.data.toList) lk))
 (z:(lk.rc.next=0/\∀a∈items,a.1≠CG key.data.toList)\/(lk.rc.next≠0/\(CG key.data.toList,lk.rc.next)∈items))(lf:Int)(N:G (s.ws 8) items ch)(E:G (s.ws 8) items' (EK ch (CG key.data.toList) lk)):
 (∃n,Jr ⟨.up lf,s⟩ (key,lk.rc.next,Aj o)=(⟨.up n,(Fj (O7 s key.data.toList lk.rc.next).1 o).1⟩,0))\/Dn (Found L s G) (Jr ⟨.up lf,s⟩ (key,lk.rc.next,Aj o)).1:=by
 have A:key.data.toList.length<=16:=S;have ar:=Xa l S T g h z;obtain⟨k,H⟩:=ε (CG key.data.toList);rw[<-H]at g h z E;have r:=h.y;have R:(k,Aj o)∈items':=(g _).2 (.inl rfl);have W:EK ch k lk k=lk::ch k:=by unfold EK;rw[if_pos rfl]
 have V:∀B,B≠k->EK ch k lk B=ch B:=λB J=>by unfold EK;rw[if_neg J]
 have an:Dz (lk::ch k)=o::Dz (ch k):=by unfold Dz;rw[Ci,T,BU]
 have P:=(h.chain _ R).1;simp only[W]at P;obtain⟨aR,aH,_,_,_,_,ap,_,_,_⟩:=aU h.ix.ok P;have av:∀a∈items,∀p∈Dz (ch a.1),∃a∈items',p∈Dz (EK ch k lk a.1):=λa c p e=>by
  by_cases b:a.1=k
  ·rw[b]at e;exact⟨_,R,by rw[W,an];exact List.mem_cons_of_mem _ e⟩
  ·exact⟨a,(g a).2 (.inr ⟨c,b⟩),by rw[V _ b];exact e⟩
 have X:∀a∈items,Dh s a.2 (ch a.1):=λa q=>by
  by_cases b:a.1=k
  ·have aw:a.2=lk.rc.next:=by
    rcases z with⟨_,d⟩|⟨_,d⟩
    ·exact absurd b (d a q)
    ·exact congrArg Prod.snd (l.key q d b)
   rw[aw,b];exact ap
  ·have:=(h.chain a ((g a).2 (.inr ⟨q,b⟩))).1;rw[V _ b]at this;exact this
 have v:∀{New:List Kv->Prop},(∀{t:St}{Z:Nat->Prop}{its:List Kv},IW Z L t its->New its->its=items)->∀ws',Gd (λp=>(∃a∈items',p∈Dz (EK ch k lk a.1))\/False) L s items' New ws'->Found L s G ws':=λ{New}ad ws' az=>by
  obtain⟨its,rfl|ao,F⟩:=az
  ·exact aZ r F E
  ·have am:=F;obtain⟨Z,_,w,_⟩:=am;have:=ad w ao;subst this;exact Xd r F (λa q=>⟨X a q,(l.chain a q).2,λp g=>.inl (av a q p g)⟩) l.none l.TT N
 have Q:((∃n,KI ⟨.up lf,s⟩ key.data.toList lk.rc.next=(⟨.up n,(O7 s key.data.toList lk.rc.next).1⟩,(O7 s key.data.toList lk.rc.next).2))\/Dn (Found L s G) (KI ⟨.up lf,s⟩ key.data.toList lk.rc.next).1)/\Found L s G (O7 s key.data.toList lk.rc.next).1.ws:=by
  unfold KI O7;rcases z with⟨u,d⟩|⟨u,d⟩
  ·have hcut:∀{t:St}{Z:Nat->Prop}{its:List Kv},IW Z L t its->V6 items' its (CG key.data.toList)->its=items:=λw hcut=>VA w.up l.ix.up (λx=>by
    rw[hcut x,g x,<-H];constructor
    ·rintro⟨rfl|⟨c,_⟩,e⟩
     ·exact absurd rfl e
     ·exact c
    ·exact λc=>⟨.inr ⟨c,d x c⟩,d x c⟩)
   simp only[if_pos u];refine⟨?_,?_⟩
   ·rcases Ad5 r.ix key.data.toList A lf with⟨n,b⟩|m
    ·exact .inl ⟨n,by rw[show sD ⟨.up lf,s⟩ key.data.toList=Ox ⟨.up lf,s⟩ key.data.toList from rfl,b]⟩
    ·exact .inr (m.mono (v hcut))
   ·rcases lF r.ix key.data.toList A with⟨b,_⟩|⟨C,b,aG,D,i,af⟩
    ·rw[b];exact Og r E
    ·exact v hcut _ ⟨D,.inr af,found i C i.ok rfl (DI.refl _ _) (λ_ _=>rfl) (Gi _)⟩
  ·have M:∀{t:St}{Z:Nat->Prop}{its:List Kv},IW Z L t its->PY items' its (CG key.data.toList) lk.rc.next->its=items:=λw K=>VA w.up l.ix.up (λx=>by
    rw[K x,g x,<-H];constructor
    ·rintro(rfl|⟨rfl|⟨c,_⟩,e⟩)
     ·exact d
     ·exact absurd rfl e
     ·exact c
    ·intro c;by_cases b:x.1=k
     ·exact .inl (l.key c d b)
     ·exact .inr ⟨.inr ⟨c,b⟩,b⟩)
   simp only[if_neg u];refine⟨?_,?_⟩
   ·rcases iV r.ix key.data.toList A lk.rc.next u lf with⟨n,b⟩|m
    ·exact .inl ⟨n,b⟩
    ·exact .inr (m.mono (v M))
   ·obtain⟨C,⟨_,i,_⟩|⟨_,D,i,K⟩⟩:=WY r.ix key.data.toList A lk.rc.next u
    ·exact v M _ ⟨items',.inl rfl,found i C i.ok rfl (DI.refl _ _) (λ_ _=>rfl) (Gi _)⟩
    ·exact v M _ ⟨D,.inr K,found i C i.ok rfl (DI.refl _ _) (λ_ _=>rfl) (Gi _)⟩
 obtain⟨s1,a0,Y,aa,e,I⟩:=ar;have J:Aj o≠0:=λb=>by
  have:=congrArg NH b;rw[Dt O]at this;simp at this;omega
 have aq:Bg (Aj o)=o:=Jq O;unfold Jr;rw[if_neg J];simp only;rw[Y]at Q⊢;obtain⟨⟨aB,ab⟩|m,ah⟩:=Q
 ·rw[ab];simp only[ne_eq,not_true_eq_false,if_false];rw[aq];have al:Found L s G (Fj s1 o).1.ws:=by
   rw[aa];exact(Og e.y (by rw[I.2 8 U U];exact N)).from I.1 (λj aE=>I.2 j O O)
  rcases V7 (lf:=aB) (o:Int) ah al with⟨aD,ac⟩|m
  ·rw[ac];exact .inl ⟨aD,rfl⟩
  ·exact .inr m
 ·right;split
  ·exact m
  ·exact Np m _
def Ah8{l:List Past}{a:List Kv}{c:List UInt8->List Lk}(h:Hist L items ch l a c):∀{s:St}(lf:Int),Ce L s a c->(∀l a c,Hist L items ch l a c->G (s.ws 8) a c)->
 (∃w,QS ⟨.up lf,s⟩ l.reverse=⟨.up w,MF s l.reverse⟩)\/Dn (Found L s G) (QS ⟨.up lf,s⟩ l.reverse):=by
 induction h with
 |nil=>exact λlf _ _=>.inl ⟨lf,rfl⟩
 |skip J _ t=>
  intro s lf d b;rw[UG,Rn,TA,MF,if_pos rfl,QS,show Jr ⟨.up lf,s⟩ (J,0,0)=(⟨.up lf,s⟩,0)from rfl];simp only[ne_eq,not_true_eq_false,if_false];exact t lf d b
 |add v g n q u i r k t=>
  intro s lf d b;rename_i o _;obtain⟨s1,M,y,z,H,p⟩:=Xa g n q r d k;have F:Aj o≠0:=λe=>by
   have:=congrArg NH e;rw[Dt O]at this;simp at this;omega
  rw[UG,Rn,TA,MF,if_neg F,QS];rcases Ah7 g n q u i r d k lf (b _ _ _ v) (b _ _ _ (.add v g n q u i r k))with⟨K,e⟩|m
  ·rw[e];rw[y]at*;simp only[ne_eq,not_true_eq_false,if_false];rw[Jq i,z];simp only;have A:M.ws 8=s.ws 8:=p.2 8 U U;rcases t K H (λl a c E=>by rw[A];exact b l a c E)with B|⟨x,C,D⟩
   ·exact .inl B
   ·exact .inr ⟨x,C,λws' I=>(D ws' I).from p.1 (λj N=>p.2 j O O)⟩
  ·right;split
   ·exact m
   ·rw[bf _ m];exact m
end
open Go.RowKit
def lN{w w':World}{base n k:Nat}{e:TypeId}{v:Value}{xs:List Value}(h:w.ownsRow base e k v n xs)(b:η w w'):w'.ownsRow base e k v n xs:=
 Fg h (Kept.of_below (r:=none) b) (by
  rcases h.2 with⟨a,_⟩|⟨g,c,d,a,_⟩
  ·exact .inr (by subst a;rfl)
  ·exact .inl (by subst a;exact λe=>nomatch e))
def Alh{w:World}{base k n:Nat}{e:TypeId}{v:Value}{xs:List Value}(h:w.ownsRow base e k v n xs):∃b c,v=.slice b n c/\n<=c/\Rd w b (n*k) xs:=by
 rcases h.2 with⟨a,g⟩|⟨d,q,l,a,g,i,m,r,s,o⟩
 ·subst g;exact⟨none,0,a,Ad _,h.1,λp=>O⟩
 ·refine⟨_,_,a,m,h.1,λp=>⟨d,0,rfl,(AA.1 i).1,λj t=>?_⟩⟩;rw[cell_of_row w d _ l _ (0,0) i,<-o,List.getElem?_take,if_pos O];simp
def Fq{P:Program}{b:Array Oper}{d:Exit->Act->World->Prop}{md:Region.Mode}{S:World->Prop}(i:Nat)(v:Value){c:Oper}{fuel:Nat}{g:Array Bool}{a:Act}{w:World}(l:S w)(h:wpAnyH P md b d S fuel (g.setIfInBounds i true) (a.put c.dst v) w)(hi:b[i]?=some c:=by rfl)
 (e:(Region.noSelect b&&(Region.free md b g i&&(Region.ready md b g).contains i))=true:=by kernel_rfl)(k:∀j a w,d (.panic j) (a.put c.dst v) w->d (.panic j) a w:=by exact λ_ _ _ h=>h)(n:Region.wanted c (yielded b a.tmps)=true:=by rfl)
 (hy:∀w,S w->(execOp a.eval c).run P w=.ok (.value v) w:=by intro w m;clear m;go_simp):wpAnyH P md b d S (fuel+1) g a w:=by
 rw[Bool.and_eq_true,Bool.and_eq_true]at e;exact wpAnyH_take hi e.1 e.2.1 e.2.2 k (.inl ⟨n,hy⟩) l h
def lQ{w:World}{base n k:Nat}{v:Value}{e:TypeId}{xs:List Value}(h:w.ownsRow base e k v n xs):∀b,v.ownBlock=some b->base<=b/\b<w.heap.size:=λb a=>by
 rcases h.2 with⟨c,_⟩|⟨l,i,j,c,d,g,_⟩
 ·rw[c]at a;cases a
 ·rw[c]at a;injection a with a
  rw[<-a];exact⟨d,(AA.1 g).1⟩
def FZ.touch{w w':World}{base jb x d p L:Nat}{j:Jm}{G H:Nat->Prop}(h:FZ w base jb x d p L j G)(k:Touch H w w')(e:∀g,H g->¬G g)(r:¬H x)(n:¬H 0)(o:¬H 1):FZ w' base jb x d p L j G:=by
 obtain⟨F,s,a,c⟩:=h;exact⟨F,s,⟨⟨a.ix.sys.keep k (λi m b=>e i b ((c i).2 (.inl m))) n o,a.ix.box.touch k r,a.ix.out⟩,a.box.touch k (λb=>e _ b ((c _).2 (.inr (.inl rfl)))),Ie a.row k (λl q b=>e _ b ((c l).2 (.inr (.inr q)))),a.fj,a.bj,a.bx,a.bt,a.mj,a.mF,a.mb⟩,c⟩
def FZ.base{w:World}{base jb x d p L:Nat}{j:Jm}{G:Nat->Prop}(h:FZ w base jb x d p L j G):x<w.heap.size/\0<w.heap.size/\1<w.heap.size:=by
 obtain⟨F,c,a,b⟩:=h;have:=a.bx;have:=a.bt;have:=a.bj;have:=a.box.lt;omega
structure Ah9(w:World)(G:Nat->Prop)(g:Nat)(way:List Pl):Prop where
 lt:g<w.heap.size
 out:¬G g
 at_:∀i(hi:i<way.length),∃a b c' d,(∀j u,[a,b,c',d,.int .i64 way[i].off,.int .u8 (way[i].label.toNat:Int),.int .i64 way[i].word][j]?=some u->w.cell? (Δ g (i*7+j))=some u)/\ZK w G a b c' d way[i].nd
def UpB(pl:Pl):Bool:=(pl.nd.val.toNat==0)&&(pl.nd.kids.length==1)
def yT{b:List Pl}{a:Nat}{d:List Int}(h:a+1<b.length)(c:UpB b[a]=true):Hg b (a+1) d=Hg b a (d++[b[a].off]):=by
 unfold UpB at c;rw[Bool.and_eq_true,beq_iff_eq,beq_iff_eq]at c;rw[Hg,Ae h,Ae (by omega:a<b.length)];simp only;rw[if_pos ⟨DK.1 (by simpa using c.1),c.2⟩]
def lS{b:List Pl}{a:Nat}{e:List Int}(h:a+1<b.length)(c:UpB b[a]=false):Hg b (a+1) e=(a+1,e):=by
 unfold UpB at c;rw[Hg,Ae h,Ae (by omega:a<b.length)];simp only;rw[if_neg (λd=>by
  rw[d.1,d.2]at c;simp at c)]
def iW{j:Jm}{a:List Pl}{n:Nat}{c:Pl}(g:a.length=n+1)(m:a[n]' O=c):LX j a=match Hg a n [c.off]with
 |(0,d)=>Ey j 0 72 0 d
 |(e+1,d)=>match a[e]?,a[e+1]? with
  |some b,some i=>match Jk b.nd.labels i.label with
   |some o=>if Cf b.nd then match DD j (Ru b.nd o)with
    |(p,q,k)=>Ey p k b.word q (d++[b.off])
    else(j.s,5)
   |none=>(j.s,5)
  |_,_=>(j.s,5):=by
 have l:a.getLast?=some c:=by rw[List.getLast?_eq_getElem?,g,Ae O];exact congrArg some m
 unfold LX;rw[l,g];rfl
def PrunePost(r:Ms×Int)(base jb x d p L:Nat)(G:Nat->Prop)(w:World)(e:Ending)(w':World):Prop:=
 e=.returned (.int .i64 r.2)/\∃b a,b.s=r.1/\FZ w' base jb x d p L b a/\AP G a w w'
section
variable{w:World}{base jb x d p L:Nat}{j:Jm}{G:Nat->Prop}
def Ad8(h:FZ w base jb x d p L j G)(l:List Pl)(g cS:Nat)(fb:0<l.length)(fk:l.length<=40)(dj:∀pl∈l,Acr L pl)(fc:L<=1024)(ck:Ah9 w G g l)(fg:j.made.length<=100):
 Calls prog 99 #[Az jb,.slice (some (Φ g)) l.length cS] w (PrunePost (LX j l) base jb x d p L G w):=by
 have az:=Aa h;have a7:=Aa ck;have dn:=Aa dj;obtain⟨Q,b0⟩:∃Q,l.length=Q+1:=⟨l.length-1,O⟩;obtain⟨an,cp⟩:∃an,l[Q]' O=an:=⟨_,rfl⟩;have b5:Hid (∀h,l[Q]'h=an):=Aa (λ_=>cp);obtain⟨ar,c4⟩:∃ar,Hg l Q [an.off]=ar:=⟨_,rfl⟩;have ca:=Aa c4;have de:∀K(hi:K<l.length),-9223372036854775808<=l[K].off/\l[K].off<=9223372036854775807:=λK hi=>by
  obtain⟨o,H,fh⟩:=(dn.out l[K] (BH hi)).off;rw[H];omega
 have cJ:=Aa de;obtain⟨eZ,e2,e5,d0,c8,-⟩:=ck.at_ Q O;have u:=c8 4 _ rfl;rw[show l[Q]' O=an from cp]at u;obtain⟨ab,cs⟩:=ε l.length;have be:=Aa b0;have dp:=Aa cs;have ep:IntKind.i64.wrap ((ab:Int) -1)=(Q:Int):=(wrap64 _ O O).trans O;have dl:decide ((Q:Int)<(ab:Int))=true:=decide_eq_true O;have dm:Q<ab:=O;have ct:(Q:Int)<(ab:Int):=O;obtain⟨d7,ci,c6,dz⟩:=Fz w 3 [.int .i64 an.off];have dd:d7.ownsRow w.heap.size 3 1 (.slice (some (Φ w.heap.size)) 1 1) 1 [.int .i64 an.off]:=by
  rw[ci];exact World.ownsRow_lit w #[.int .i64 an.off] 1 (Ad _) U rfl
 have cL:=Aa ci;have dI:=Aa c6;have dT:=Aa dd;clear c6 dd dz ci cp c4 de c8 h ck dj;rw[<-cs];clear b0 cs;go_enter func99,ntmps99
 go_wp2_with fail
 go_loopw [5,6](λK a1 wr=>∃(c:Nat)(i:List Int),K=.int .i64 (c:Nat)/\c<l.length/\i.length+c=l.length/\Hg l c i=ar/\(∀o∈i,-9223372036854775808<=o/\o<=9223372036854775807)/\wr.ownsRow w.heap.size 3 1 a1 i.length (i.map zv)/\η w wr)(λK _ _=>(intOf K).toNat)
 case atStart=>
  have:=be.out;exact⟨Q,[an.off],rfl,O,by simp;omega,ca.out,λo H=>by rw[BG]at H;subst H;rw[<-b5.out O];exact cJ.out Q O,cL.out▸dT.out,cL.out▸dI.out⟩
 case round=>
  clear ep dl dm ct u;obtain⟨c,i,rfl,fe,eM,bs,cC,dh,a8⟩:=hrel;have cb:=Aa bs;have b9:=Aa cC;have bg:=Aa dh;have al:=Aa a8;clear bs cC dh a8;by_cases ed:c=0
  ·have t1:decide ((0:Int)<(c:Int))=false:=decide_eq_false O;have t2:((c:Int)==0)=true:=by rw[beq_iff_eq];omega
   have bp:ar=(0,i):=by have:=cb.out;rw[ed]at this;exact this.symm
   have ac:Hid (LX j l=Ey j 0 72 0 i):=Aa (by rw[iW be.out (b5.out (Ω be.out)),ca.out,bp]);obtain⟨m,n,rfl,ff,cy⟩:=Alh bg.out;have c3:Jo wr G m i.length (i.map zv):=⟨by rw[Nat.mul_one]at cy;exact cy,λ_ b d9 eh=>by
    subst d9;have bl:=(bg.out.lt b.block rfl).1;have aa:=az.out.lt _ eh;omega⟩
   have fd:16<=L:=by
    obtain⟨_,_,ek,_⟩:=az.out;obtain⟨_,_,I,_⟩:=ek.ix.L0;have:=I.fits;have:=I.BQ;omega
   have c9:Calls prog 102 #[Az jb,.int .i64 0,.int .i64 72,.int .u64 0,.slice m i.length n] wr (QD (Ey j 0 72 0 i) base jb x d p L j G wr):=
    QE (az.out.below al.out) 0 72 9 rfl O 0 m n i c3 b9.out O O
   have bB:=Aa c9;clear cy c3 c9 bp
   go_wp2_with fail
   refine bB.out.mono ?_;rintro e M⟨rfl,V,a9,Z⟩;have cI:=Aa (And.intro a9 ((AP.of_below (F:=G) al.out).trans Z));clear a9 Z bB
   go_wp2_with fail
   go_ret;refine⟨by rw[ac.out];rfl,_,V,?_,cI.out.1,cI.out.2⟩;rw[ac.out]
  ·obtain⟨B,bt⟩:∃B,c=B+1:=⟨c-1,O⟩;have t1:decide ((0:Int)<(c:Int))=true:=decide_eq_true O;have fl:IntKind.i64.wrap ((c:Int) -1)=(B:Int):=(wrap64 _ O O).trans O;have cr:B<l.length:=O;have dm:B<ab:=Ω dp.out;have ct:(B:Int)<(ab:Int):=O;have dl:decide ((B:Int)<(ab:Int))=true:=decide_eq_true ct;obtain⟨a,ah⟩:∃a,l[B]=a:=⟨_,rfl⟩;obtain⟨e0,e3,e6,d1,bW,dc⟩:=a7.out.at_ B cr;rw[ah]at bW dc;obtain⟨ao,aM,ap,aR,aq,a0,rfl,rfl,rfl,rfl,fj,cv,cw,cx⟩:=dc;have ad:∀j a1,_->wr.cell? (Δ g (B*7+j))=some a1:=λj a1 ej=>(al.out.cell (p:=Δ g (B*7+j)) a7.out.lt).trans (bW j a1 ej)
   have fr:=ad 1 _ rfl;have fv:=ad 3 _ rfl;have u:=ad 4 _ rfl;have b8:=Aa (cJ.out B cr);rw[ah]at b8;have eT:=Aa ah;cases am:UpB a with
   |true=>
    have b3:=am;unfold UpB at b3;rw[Bool.and_eq_true,beq_iff_eq,beq_iff_eq]at b3;have t3:((a.nd.val.toNat:Int)==0)=true:=by rw[beq_iff_eq];omega
    have t4:((a.nd.kids.length:Int)==1)=true:=by rw[beq_iff_eq];omega
    have ds:Hid (Hg l B (i++[a.off])=ar):=Aa (by rw[<-ah,<-yT O (by rw[ah];exact am),<-bt];exact cb.out);clear am b3 bW ad cv cw cx ah;have fi:i.length<=40:=O
    go_wp2_with(at_builtin;refine E5 rfl (.tmp 46) (.tmp 52) 54 rfl Tryz.WH wr w.heap.size u6 i.length (i.map zv) [.int .i64 a.off] rfl (by exact bg.out) rfl wr.heap.size 1 rfl rfl rfl U (by intro a1 bx;simp at bx;subst bx;rfl) O U (by exact al.out.size) ?_;intro fa n fp cQ cN eb ev)
    have d8:=Aa cQ;have dW:=Aa (al.out.trans cN);clear cQ cN eb ev
    go_wp2_with fail
    go_roundw
    case rel=>exact⟨B,i++[a.off],by go_num,O,by rw[AY];simp;omega,ds.out,λo H=>by
     rcases AL.1 H with H|H
     ·exact b9.out o H
     ·rw[BG]at H;subst H;exact b8.out,by rw[AY,Dc];exact d8.out,dW.out⟩
    case measure=>simp[intOf];omega
   |false=>
    have eI:=ad 0 _ rfl;have ft:=ad 2 _ rfl;have fx:=ad 5 _ rfl;have fy:=ad 6 _ rfl;rw[Nat.add_zero]at eI;have t2:((c:Int)==0)=false:=ζ O;have bp:ar=(B+1,i):=by
     have:=cb.out;rw[bt,lS O (by rw[ah];exact am)]at this;exact this.symm
    obtain⟨T,cl⟩:∃T,l[B+1]' O=T:=⟨_,rfl⟩;have cK:Hid (LX j l=match Jk a.nd.labels T.label with
     |some K=>if Cf a.nd then match DD j (Ru a.nd K)with
      |(aG,aL,e)=>Ey aG e a.word aL (i++[a.off])
      else(j.s,5)
     |none=>(j.s,5)):=Aa (by
     rw[iW be.out (b5.out (Ω be.out)),ca.out,bp];simp only;rw[Ae cr,Ae (by omega:B+1<l.length),ah,cl])
    obtain⟨e1,e4,e7,d2,cn,-⟩:=a7.out.at_ (B+1) O;rw[cl]at cn;have eE:wr.cell? (Δ g (c*7+5))=some (.int .u8 (T.label.toNat:Int)):=by
     rw[bt];exact(al.out.cell (p:=Δ g ((B+1)*7+5)) a7.out.lt).trans (cn 5 _ rfl)
    have fm:c<ab:=Ω dp.out;have eq:(c:Int)<(ab:Int):=O;have fn:decide ((c:Int)<(ab:Int))=true:=decide_eq_true eq;have a3:=dn.out a (by rw[<-ah];exact BH _);have eJ:=((Bv _).1 a3.right).1;have eK:=a3.kids;have eL:=a3.labels;have dg:Cf a.nd=true:=a3.right;have dU:=Aa a3;have c7:((a.nd.val.toNat:Int)==0)=true/\((a.nd.kids.length:Int)==1)=false\/((a.nd.val.toNat:Int)==0)=false:=by
     unfold UpB at am;by_cases eo:a.nd.val.toNat=0
     ·refine .inl ⟨by rw[beq_iff_eq];omega,?_⟩;rw[eo]at am;rw[beq_eq_false_iff_ne];intro e;have:a.nd.kids.length=1:=O;rw[this]at am;simp at am
     ·exact .inr (by rw[beq_eq_false_iff_ne];omega)
    obtain⟨I,N,cM,ac,b6⟩:∃(I:Bool)(N:Nd),Hid (∀r,η w r->Calls prog 145 #[.agg #[.slice ao a.nd.pre.length aM,.int .u64 (a.nd.val.toNat:Int),.slice ap a.nd.labels.length aR,.slice aq a.nd.kids.length a0],.int .u8 (T.label.toNat:Int)] r λe R=>
     ∃q C t u z D A m E n,e=.returned (.tuple #[.agg #[.slice q C t,.int .u64 u,.slice z D A,.slice m E n],.bool I])/\η r R/\(I=true->Yh R (r.heap.size+2) (.agg #[.slice q C t,.int .u64 u,.slice z D A,.slice m E n]) N))/\
     Hid (LX j l=if I=true then(match DD j N with|(aG,aL,e)=>Ey aG e a.word aL (i++[a.off]))else(j.s,5))/\Hid (N.pre.length<=1000/\N.labels.length<=1000/\N.kids.length<=1000):=by
     have cV:=λr(P:η w r)=>(Rd.below cv.1 P:Bs r ao a.nd.pre.length a.nd.pre)
     have cW:=λr(P:η w r)=>(Rd.below cw.1 P:Bs r ap a.nd.labels.length a.nd.labels)
     have cX:=λr(P:η w r)=>(Rd.below cx.1 P:Ws r aq a.nd.kids.length a.nd.kids)
     cases bX:Jk a.nd.labels T.label with
     |none=>
      refine⟨false,a.nd,Aa (λr P=>(xZ ao ap aq a.nd.pre.length aM a.nd.labels.length aR a.nd.kids.length a0 a.nd T.label r O O O (cV r P) (cW r P) (cX r P) (.inl bX)).mono ?_),Aa (by rw[cK.out,bX];rfl),Aa ⟨O,O,O⟩⟩;rintro e R⟨rfl,a8⟩;exact⟨none,0,0,0,none,0,0,none,0,0,rfl,a8,λh=>Bool.noConfusion h⟩
     |some K=>
      refine⟨true,Ru a.nd K,Aa (λr P=>(qJ ao ap aq a.nd.pre.length aM a.nd.labels.length aR a.nd.kids.length a0 a.nd T.label K r O O O (cV r P) (cW r P) (cX r P) bX dg).mono ?_),Aa (by rw[cK.out,bX];simp only;rw[if_pos dg];rfl),Aa ⟨by show a.nd.pre.length<=1000;omega,by unfold Ru JC;simp;omega,by unfold Ru JC;simp;omega⟩⟩;rintro e R⟨⟨q,t,bb,bi,bc,bj,rfl,s1,av,aw⟩,a8⟩;exact⟨q,_,t,_,bb,_,bi,bc,_,bj,rfl,a8,λ_=>⟨q,t,bb,bi,bc,bj,rfl,s1,av,aw⟩⟩
    obtain⟨v,cj,bT,a4⟩:=Fz wr 197 [.slice ao a.nd.pre.length aM,.int .u64 (a.nd.val.toNat:Int),.slice ap a.nd.labels.length aR,.slice aq a.nd.kids.length a0,.int .i64 a.off,.int .u8 (a.label.toNat:Int),.int .i64 a.word];have bA:=Aa (τ al.out bT);have dq:v.cell? (Δ g (c*7+5))=some (.int .u8 (T.label.toNat:Int)):=(bT.cell (p:=Δ g (c*7+5)) (BI a7.out.lt al.out.size)).trans eE;have er:=a7.out.lt;have dX:=Aa (lN bg.out bT);have d5:=Aa a4;have aB:Hid (∀X,η v X->X.cell? (Φ wr.heap.size)=some (.slice ao a.nd.pre.length aM)/\X.cell? (Δ wr.heap.size 1)=some (.int .u64 (a.nd.val.toNat:Int))/\X.cell? (Δ wr.heap.size 2)=some (.slice ap a.nd.labels.length aR)/\X.cell? (Δ wr.heap.size 3)=some (.slice aq a.nd.kids.length a0)/\X.cell? (Δ g (c*7+5))=some (.int .u8 (T.label.toNat:Int))):=Aa (λX k=>⟨(a4.ξ k).cell 0,(a4.ξ k).cell 1,(a4.ξ k).cell 2,(a4.ξ k).cell 3,(k.cell (p:=Δ g (c*7+5)) (BI er bA.out.size)).trans dq⟩);have dV:=Aa cj;have eR:=Aa bt;have dk:wr.heap.size+1=v.heap.size:=by rw[cj];simp
    have eS:=Aa dk;have eP:=Aa ad;have bE:Hid (∀cR,G cR->cR<w.heap.size):=Aa az.out.lt;clear am bW ad ah cn cl bp a3 bT a4 cj bt dk cv cw cx dq;have bs:∀(bN:Prop),(∀(_:((a.nd.val.toNat:Int)==0)=true)(_:((a.nd.kids.length:Int)==1)=false),bN)->(∀(_:((a.nd.val.toNat:Int)==0)=false),bN)->bN:=λbN bl aa=>by
     rcases c7 with⟨h,k⟩|h
     ·exact bl h k
     ·exact aa h
    clear c7;refine bs _ (λt3 t4=>?_) (λt3=>?_)
    all_goals(
     clear bs
     go_wp2_with fail
     rw[<-dV.out]
     go_cut [8,9](λeB eC cz=>∃cA q C t u z D A m E n,eB=Az cA/\eC=.bool I/\CQ cz cA 195 [.slice q C t,.int .u64 u,.slice z D A,.slice m E n]/\η v cz/\(I=true->Yh cz v.heap.size (.agg #[.slice q C t,.int .u64 u,.slice z D A,.slice m E n]) N))
     case first=>
      refine wp_region_held_drew (S:=(λR=>R.cell? (Φ wr.heap.size)=some (.slice ao a.nd.pre.length aM)/\R.cell? (Δ wr.heap.size 1)=some (.int .u64 (a.nd.val.toNat:Int))/\R.cell? (Δ wr.heap.size 2)=some (.slice ap a.nd.labels.length aR)/\R.cell? (Δ wr.heap.size 3)=some (.slice aq a.nd.kids.length a0)/\R.cell? (Δ g (c*7+5))=some (.int .u8 (T.label.toNat:Int)))) Γ (aB.out _ ((Dr.drew v).below _)) (λy=>?_);refine Fq 0 (Az wr.heap.size) y ?_
      try simp only[Act.put,Aq,Ah,Af,Ap,Au]
      refine Fq 1 (.agg #[.slice ao a.nd.pre.length aM,.int .u64 (a.nd.val.toNat:Int),.slice ap a.nd.labels.length aR,.slice aq a.nd.kids.length a0]) y (hy:=λw ch=>by obtain⟨s0,s1,av,aw,eA⟩:=ch;go_simp) ?_
      try simp only[Act.put,Aq,Am,Ah,Af,Ap,Au]
      refine Fq 2 (.slice (some (Φ g)) ab cS) y ?_
      try simp only[Act.put,Aq,Am,Ah,Af,Ap,Au]
      refine Fq 3 (.int .i64 (c:Nat)) y ?_
      try simp only[Act.put,Aq,Am,Ah,Af,Ap,Au]
      refine Fq 4 (.pointer (some (Δ g (c*7)))) y ?_
      try simp only[Act.put,Aq,Am,Ah,Af,Ap,Au]
      refine Fq 5 (.pointer (some (Δ g (c*7+5)))) y ?_
      try simp only[Act.put,Aq,Am,Ah,Af,Ap,Au]
      refine Fq 6 (.int .u8 (T.label.toNat:Int)) y (hy:=λw ch=>by obtain⟨s0,s1,av,aw,eA⟩:=ch;go_simp) ?_
      try simp only[Act.put,Aq,Am,Ah,Af,Ap,Au]
      refine wpAnyH_ready (rs:=[7,11]) Γ Θ ?_;refine AllReadyH.cons rfl (λW J=>?_) (AllReadyH.cons rfl (λW J=>?_) AllReadyH.nil)
      ·go_simp;refine(cM.out _ (τ bA.out ((Dr.drew v).below _))).mono ?_;rintro e a2⟨q,C,t,u,z,D,A,m,E,n,rfl,bV,ce⟩;have aD:η v a2:=((Dr.drew v).below _).trans bV;refine J.out _ _ (aB.out _ aD) (λy=>?_);clear J W
       try simp only[Act.put,Aq,Am,Ah,Af,Ap,Au]
       refine Fq 8 (.tuple #[.agg #[.slice q C t,.int .u64 u,.slice z D A,.slice m E n],.bool I]) y ?_
       try simp only[Act.put,Aq,Am,Ah,Af,Ap,Au]
       refine Fq 9 (.agg #[.slice q C t,.int .u64 u,.slice z D A,.slice m E n]) y ?_
       try simp only[Act.put,Aq,Am,Ah,Af,Ap,Au]
       refine Fq 10 (.bool I) y ?_
       try simp only[Act.put,Aq,Am,Ah,Af,Ap,Au]
       refine wpAnyH_ready (rs:=[11]) Γ Θ ?_;refine AllReadyH.cons rfl (λW J=>?_) AllReadyH.nil;go_simp;refine J.out _ _ (aB.out _ (aD.alloc aD.size _)) (λy=>?_);clear J W
       try simp only[Act.put,Aq,Am,Ah,Af,Ap,Au]
       refine wpAnyH_ready (rs:=[12]) Γ Θ ?_;refine AllReadyH.cons rfl (λW J=>?_) AllReadyH.nil;go_simp;obtain⟨bh,aH⟩:=ε (a2.alloc (.cells #[.slice q C t,.int .u64 u,.slice z D A,.slice m E n] 195));rw[<-aH];have cD:η a2 bh:=aH▸(Below.refl _ _).alloc (Ad _) _;have cd:CQ bh a2.heap.size 195 [.slice q C t,.int .u64 u,.slice z D A,.slice m E n]:=aH▸heap_alloc_new _ _;have bd:=τ aD cD;have cf:I=true->Yh bh v.heap.size (.agg #[.slice q C t,.int .u64 u,.slice z D A,.slice m E n]) N:=λh=>((ce h).below cD).mono (by have:v.drew.heap.size=v.heap.size:=rfl;omega)
       clear aH;refine J.out _ _ (aB.out _ bd) (λy=>?_);clear J W
       try simp only[Act.put,Aq,Am,Ah,Af,Ap,Au]
       refine Fq 13 (.bool I) y ?_
       try simp only[Act.put,Aq,Am,Ah,Af,Ap,Au]
       refine wpAnyH_done Γ ?_ _
       go_wp2_with fail
       go_meet
       exact⟨a2.heap.size,q,C,t,u,z,D,A,m,E,n,rfl,rfl,cd,bd,cf⟩
      ·go_simp;obtain⟨cP,bO⟩:=ε ((v.alloc (.cells #[.slice none 0 0,.int .u64 0,.slice none 0 0,.slice none 0 0] 195)).drew);rw[<-bO];have cm:η v cP:=by rw[bO];exact((Below.refl v.heap.size v).alloc (Ad _) _).drew
       have c1:CQ cP v.heap.size 195 [.slice none 0 0,.int .u64 0,.slice none 0 0,.slice none 0 0]:=by rw[bO];exact heap_alloc_new v (.cells #[.slice none 0 0,.int .u64 0,.slice none 0 0,.slice none 0 0] 195)
       have el:=c1.lt;clear bO;refine J.out _ _ (aB.out _ cm) (λy=>?_);clear J W
       try simp only[Act.put,Aq,Am,Ah,Af,Ap,Au]
       refine wpAnyH_ready (rs:=[7]) Γ Θ ?_;refine AllReadyH.cons rfl (λW J=>?_) AllReadyH.nil;go_simp;refine(cM.out _ (τ bA.out cm)).mono ?_;rintro e a2⟨q,C,t,u,z,D,A,m,E,n,rfl,bV,ce⟩;have aD:η v a2:=τ cm bV;have c0:=c1.below bV el;refine J.out _ _ (aB.out _ aD) (λy=>?_);clear J W
       try simp only[Act.put,Aq,Am,Ah,Af,Ap,Au]
       refine Fq 8 (.tuple #[.agg #[.slice q C t,.int .u64 u,.slice z D A,.slice m E n],.bool I]) y ?_
       try simp only[Act.put,Aq,Am,Ah,Af,Ap,Au]
       refine Fq 9 (.agg #[.slice q C t,.int .u64 u,.slice z D A,.slice m E n]) y ?_
       try simp only[Act.put,Aq,Am,Ah,Af,Ap,Au]
       refine Fq 10 (.bool I) y ?_
       try simp only[Act.put,Aq,Am,Ah,Af,Ap,Au]
       obtain⟨fq,fs,fu,fw,eV,eW,e8,e9⟩:=CO c0;refine wpAnyH_ready (rs:=[12]) Γ Θ ?_;refine AllReadyH.cons rfl (λW J=>?_) AllReadyH.nil;go_simp;obtain⟨bh,aH,cd,dt,co⟩:=Ac7 c0 aD (Ad _) (.slice q C t) (.int .u64 u) (.slice z D A) (.slice m E n);rw[<-aH];have bd:=dt;have cf:I=true->Yh bh v.heap.size (.agg #[.slice q C t,.int .u64 u,.slice z D A,.slice m E n]) N:=λh=>by
        obtain⟨bb,bi,bc,bj,cB,bS,e,s1,av,aw⟩:=ce h;exact⟨bb,bi,bc,bj,cB,bS,e,Fe (KX s1 co O) O,Fe (KX av co O) O,Fe (KX aw co O) O⟩
       clear aH;refine J.out _ _ (aB.out _ bd) (λy=>?_);clear J W
       try simp only[Act.put,Aq,Am,Ah,Af,Ap,Au]
       refine Fq 13 (.bool I) y ?_
       try simp only[Act.put,Aq,Am,Ah,Af,Ap,Au]
       refine wpAnyH_done Γ ?_ _
       go_wp2_with fail
       go_meet
       exact⟨v.heap.size,q,C,t,u,z,D,A,m,E,n,rfl,rfl,cd,bd,cf⟩
     case rest=>
      obtain⟨cA,q,C,t,u,z,D,A,m,E,n,em,en,b2,bq,cg⟩:=hcut;subst em;subst en;have a6:=Aa (τ bA.out bq);cases I with
      |false=>
       clear cg b2 bq
       go_wp2_with fail
       go_ret;refine⟨by rw[ac.out];rfl,j,G,?_,az.out.below a6.out,AP.of_below a6.out⟩;rw[ac.out];rfl
      |true=>
       obtain⟨bb,bi,bc,bj,cB,bS,e,s1,av,aw⟩:=cg rfl;simp at e;obtain⟨⟨rfl,rfl,rfl⟩,cU,⟨rfl,rfl,rfl⟩,rfl,rfl,rfl⟩:=e;obtain⟨d3,c5⟩:∃ar,DD j N=ar:=⟨_,rfl⟩;have br:=Md (az.out.below a6.out) N q z m t A n b6.out.1 b6.out.2.1 b6.out.2.2 (CV s1).2 (CV av).2 (CV aw).2 O;have b7:Hid ((DD j N).1.made.length<=j.made.length+1):=Aa (Iu j N);rw[c5]at br ac b7;rw[cU]at b2;obtain⟨aG,aL,cc⟩:=d3;rw[if_pos rfl]at ac;unfold IA at br;simp only at ac b7 br;have cG:=Aa br;obtain⟨ew,ex,ey,ez,f0,f1,f2,f3⟩:=CO b2;have cH:=Aa (d5.out.ξ bq);have bL:=Aa (lN dX.out bq);clear cg b2 bq s1 av aw cU c5 br
       go_wp2_with fail
       refine cG.out.mono ?_;rintro e M⟨rfl,V,a9,Z⟩;have du:=a6.out.size;have eN:=al.out.size;have a5:=cH.out.touch Z.touch (λh=>Ω (bE.out _ h));have d4:=a5.cell 4;have d6:=a5.cell 6;have eO:=cH.out.lt;simp only[List.getElem?_cons_zero,List.getElem?_cons_succ]at d4 d6;have bo:=Ie bL.out Z.touch (λb af h=>Ψ (bE.out _ h) ((lQ bL.out b af).1));have eu:Hid (∀X,η M X->X.ownsRow w.heap.size 3 1 u6 i.length (i.map zv)):=Aa (λX k=>lN bo k);have db:∀b,u6.ownBlock=some b->¬V b:=λb af h=>by
        have bl:=lQ bL.out b af;rcases Z.own b h with aa|aa
        ·have:=bE.out _ aa;omega
        ·omega
       have aE:∀b,u6.ownBlock=some b->w.heap.size<=b/\b≠wr.heap.size:=λb af=>by
        refine⟨(lQ bL.out b af).1,λe=>?_⟩;have:=(lQ bg.out b af).2;omega
       have ee:=az.out.base;have b1:Hid (∀X,Touch (λb=>u6.ownBlock=some b) M X->X.cell? (Δ wr.heap.size 4)=some (.int .i64 a.off)/\X.cell? (Δ wr.heap.size 6)=some (.int .i64 a.word)):=Aa (λX k=>⟨(a5.touch k (λe=>(aE _ e).2 rfl)).cell 4,(a5.touch k (λe=>(aE _ e).2 rfl)).cell 6⟩);have dv:¬V wr.heap.size:=λh=>by
        rcases Z.own _ h with aa|aa
        ·have:=bE.out _ aa;omega
        ·omega
       have dO:Hid (∀X Y,Touch (λb=>u6.ownBlock=some b) M X->Touch V X Y->Y.cell? (Δ wr.heap.size 4)=some (.int .i64 a.off)/\Y.cell? (Δ wr.heap.size 6)=some (.int .i64 a.word)):=Aa (λX Y k et=>
        have cF:=(a5.touch k (λe=>(aE _ e).2 rfl)).touch et dv
        ⟨cF.cell 4,cF.cell 6⟩)
       have dL:Hid (∀X,Touch (λb=>u6.ownBlock=some b) M X->FZ X base jb x d p L aG V):=Aa (λX k=>a9.touch k db (λe=>Ω ((aE _ e).1)) (λe=>Ω ((aE _ e).1)) (λe=>Ω ((aE _ e).1)));have dR:Hid (∀X,Touch (λb=>u6.ownBlock=some b) M X->AP G V w X):=Aa (λX k=>⟨((AP.of_below a6.out).trans Z).touch.trans k (λb af=>.inr (aE b af).1),((AP.of_below a6.out).trans Z).own⟩);have eD:Hid (∀b,u6.ownBlock=some b\/M.heap.size<=b->¬V b):=Aa (λb bl h=>bl.elim (λaa=>db b aa h) (λaa=>Ω (a9.lt b h)));have cq:(i++[a.off]).length=i.length+1:=by simp
       obtain⟨es,cT,da⟩:=dU.out.word;have bB:Hid (∀X ba bR,Touch (λb=>u6.ownBlock=some b) M X->X.ownsRow w.heap.size 3 1 (.slice ba (i.length+1) bR) (i.length+1) (i.map zv++[.int .i64 a.off])->(∀c,ba=some c->¬V c.block)->Calls prog 102 #[Az jb,.int .i64 cc,.int .i64 a.word,.int .u64 (aL.toNat:Int),.slice ba (i.length+1) bR] X (QD (Ey aG cc a.word aL (i++[a.off])) base jb x d p L aG V X)):=Aa (λX ba bR k ec ea=>by
        rw[<-cq];refine QE (dL.out X k) cc a.word es cT da aL ba bR (i++[a.off]) ⟨?_,λ_ c bk=>ea c bk⟩ (λo H=>?_) O (Ω b7.out)
        ·rw[Dc,cq];exact(CV ec).2
        ·rcases AL.1 H with H|H
         ·exact b9.out o H
         ·rw[BG]at H;subst H;exact b8.out)
       have dx:w.heap.size<=M.heap.size:=Bi du Z.touch.size;clear cT da cq a9 Z a5 bo ee cG ew ex ey ez f0 f1 f2 f3
       go_wp2_with fail
       go_region_held_law(λR=>R.cell? (Δ wr.heap.size 4)=some (.int .i64 a.off)/\R.cell? (Δ wr.heap.size 6)=some (.int .i64 a.word))
        (first|exact⟨d4,d6⟩|exact b1.out _ (Touch.refl _ _)|exact b1.out _ (Touch.of_below ((Dr.drew M).below _))|exact b1.out _ (Touch.of_below (((Dr.drew M).below _).alloc (Ad _) _))|exact dO.out _ _ bw b4.touch|exact b1.out _ bw)
        (first
        |(refine NK rfl (.tmp 88) (.tmp 91) 54 rfl Tryz.WH M w.heap.size u6 i.length (i.map zv) [.int .i64 a.off] (by simp[Act.eval]) (eu.out _ (Below.refl _ _)) rfl rfl rfl rfl M.heap.size 1 (by simp[Act.eval]) rfl rfl U (by intro a1 bx;simp at bx;subst bx;rfl) O U dx ?_;intro cY bS dr bo bm c2 ei;have bw:Touch (λb=>u6.ownBlock=some b) M dr:=⟨bm.os,bm.tape,bm.output,bm.size,λb af b0=>c2.2 b af (λe=>b0 e.symm)⟩;have dy:∀c,some ((Φ cY):Addr)=some c->¬V c.block:=λc bk=>by injection bk with bk;subst bk;exact eD.out _ ei)
        |(go_at_call 102;refine(bB.out dr (some (Φ cY)) bS bw bo dy).mono ?_;rintro e fo eg;obtain⟨ef,dC,cE,b4⟩:=eg;subst ef))
       all_goals(
        have dS:=Aa ((dR.out _ bw).trans b4);have dM:=Aa cE;clear bw b4 cE bo bm c2
        go_wp2_with fail
        go_ret;refine⟨by rw[ac.out];rfl,_,dC,?_,dM.out,dS.out⟩;rw[ac.out]))
end
def Ah9.Atj{w c l:World}{F:Nat->Prop}{g:Nat}{way:List Pl}(hF:∀b,F b->b<w.heap.size)(y:w.heap.size<=g)(n:g<c.heap.size)(k:η c l){e:Nat}(t:c.heap.size<=e)
 (o:∀i(hi:i<way.length),∃a b c' d,Aak c w.heap.size g i way[i] a b c' d):Ah9 l (λb=>F b\/b=e) g way:=by
 refine⟨BI n k.size,λh=>h.elim (λh=>Ω (hF _ h)) (λh=>O),λi hi=>?_⟩;obtain⟨a,b,c',d,m⟩:=o i hi;refine⟨a,b,c',d,λj u r=>?_,?_⟩
 ·rw[k.cell (p:=Δ g (i*7+j)) n,Nat.mul_comm];exact m.cells j u r
 ·have s:ZK c (λb=>F b\/b=e) a b c' d way[i].nd:=ZK.Ar6 m.nd (λb v x q=>q.elim (λh=>Ω (hF _ h)) (λh=>O));exact s.moved (AP.of_below k)
def FZ.done2{w g w':World}{base jb x d p L:Nat}{j:Jm}{F G e:Nat->Prop}(h:FZ w' base jb x d p L j e)(m:AP G e g w')(c:η w g)(k:∀a,G a->F a\/w.heap.size<=a):∃b,Yj w' x d p L j.s b/\AP F b w w'/\∀a,b a->e a:=by
 obtain⟨b,r,o,l⟩:=h;have q:=c.size;refine⟨b,o.ix,⟨(Touch.of_below c).trans m.touch k,λa n=>?_⟩,λa c=>(l a).2 (.inl c)⟩;rcases m.own a ((l a).2 (.inl n))with i|i
 ·exact k a i
 ·exact .inr O
section
variable{w:World}{x d p L:Nat}{s:St}{F:Nat->Prop}{lf:Int}
def yU(h:IU (.up (MU lf)) w x d p L s F)(key:ByteArray)(a2:¬16<key.size){e:List Pl}{rest:List UInt8}{a:Pl}(o:EY s key.data.toList=some (e,rest))(H:CX e rest=some a)(ad:a.nd.val≠0)(a9:a.nd.kids.length=0):
 Calls prog 59 #[Az x,.string key] w (RQ (Ox ⟨.up lf,s⟩ key.data.toList) x d p L F w):=by
 have bR:=Aa h;have Q:=Aa (Ih h key O);have ab:=QF key;rw[if_neg a2]at Q;obtain⟨cL,b5,I,aB⟩:=h.L0;have cs:16<=L:=Ψ I.fits I.BQ;have aM:=Aa (Kw h key O);obtain⟨v,bd⟩:=SQ I O aB o;have bh:=PT o;rw[ab]at bd bh;replace bd:rest.length<=32:=O;replace bh:e.length<=33:=O;have bc:∀pl∈e,pl.nd.pre.length<=1000:=λpl b2=>Ω (((Bv _).1 (v pl b2).right).1)
 have bB:=Aa v;have ci:=Aa bc;have bT:=Aa o;have cB:=h.box.lt;have cj:=Aa h.sys.tabs.lt;have y:=Aa h.sys.lt;have ac:a∈e:=by
  have i:=H;unfold CX at i;split at i
  ·cases i
  ·rename_i cK b1;split at i
   ·injection i with i;subst i;exact List.mem_of_getLast? b1
   ·cases i
 have V:0<e.length:=List.length_pos_of_mem ac;have b9:=Aa (v a ac);have bS:=Aa H;have t1:((a.nd.val.toNat:Int)==0)=false:=by
  rw[beq_eq_false_iff_ne];intro c;exact ad (DK.1 (by simp;omega))
 have t2:((a.nd.kids.length:Int)==0)=true:=by rw[beq_iff_eq];omega
 obtain⟨m,Y⟩:∃m,LX ⟨⟨.up lf,s⟩,[]⟩ e=m:=⟨_,rfl⟩;obtain⟨s1,g⟩:=m;have bE:=Aa Y;obtain⟨⟨bm,t⟩,af⟩:∃m,LW s1 a 0=m:=⟨_,rfl⟩;have bN:=Aa af;have b:Hid (Ox ⟨.up lf,s⟩ key.data.toList=if g=6 then(if t=0 then(bm,a.nd.val,0)else(bm,0,t))else if g=0 then(s1,a.nd.val,0)else(s1,0,g)):=Aa (by
  unfold Ox;rw[ab,if_neg a2];simp only[o,H,if_neg ad,if_pos a9,Y,af])
 clear af;clear h ab I aB o H v bc ac Y a9 ad;go_enter func59,ntmps59
 go_wp2_with fail
 refine Q.out.mono ?_;rintro c al⟨rfl,rfl⟩;clear Q
 go_wp2_with fail
 refine aM.out.mono ?_;rintro c al⟨a6,ba⟩;rw[bT.out]at ba;obtain⟨cM,cr,cw,rfl,aL,be,cy⟩:=ba;have aH:=Aa aL;have bL:=Aa be;have bA:=Aa a6;clear aL be a6 aM
 go_wp2_with fail
 refine(Hw aH.out O ci.out bL.out.1 O).mono ?_;rintro c J⟨B,bb⟩;rw[bS.out]at bb;obtain⟨cv,k,c',cx,rfl,b4⟩:=bb;obtain⟨am,bj,an,bk,ao,bl,c,b6,b7,b8⟩:=b4;simp only[Value.agg.injEq]at c;simp at c;obtain⟨rfl,rfl,rfl,rfl⟩:=c;obtain⟨a1,bV,rfl,bW,a7,a8,a5⟩:=aH.out.at (λc=>by rw[c]at V;exact absurd V (Nat.lt_irrefl 0));have aD:=Aa (τ bA.out B);obtain⟨n,A,C,K⟩:=Fz J 197 [.slice am a.nd.pre.length bj,.int .u64 (a.nd.val.toNat:Int),.slice an a.nd.labels.length bk,.slice ao a.nd.kids.length bl,.int .i64 a.off,.int .u8 (a.label.toNat:Int),.int .i64 a.word];have aE:=Aa (τ aD.out C);have bg:J.heap.size+1=n.heap.size:=by rw[A];simp
 obtain⟨aR,U,D,-⟩:=Fz n 202 [Az x,.slice none 0 0];have aG:=Aa (τ aE.out D);have cA:=aE.out.size;have a3:=kR (q:=⟨.up lf,s⟩) (bR.out.below aG.out) U (λk Z=>Ω (y.out k Z)) O (Ω cj.out);have a0:η al aR:=τ B (τ C D);have ap:al.heap.size<=n.heap.size:=Bi B.size C.size;have a4:Ah9 aR (λk=>F k\/k=n.heap.size) a1 e:=Ah9.Atj y.out a7 a8 a0 ap a5;have R:=Aa (Ad8 a3 e a1 bV V O bB.out b5 a4 Θ);rw[bE.out]at R;have M:=K.ξ D;obtain⟨bo,bp,bq,br,bs,bt,bw⟩:=EN K;obtain⟨cb,cc,cd,ce,cf,cg,ch⟩:=EN M;have aq:=Aa M;have bO:=Aa A;have ca:=Aa U;have S:=Aa bg;rw[A]at bo bp bq br bs bt bw;clear b6 b7 b8 B C K M A U D a3 a0 ap a4 a5 bW a7 a8 bg
 go_wp2_with fail
 rw[<-bO.out,<-ca.out];rw[show J.heap.size+1=n.heap.size from S.out];refine R.out.mono ?_;rintro c cN⟨rfl,cC,ct,aa,ar,z⟩;simp only at aa⊢;have cz:=aD.out.size;obtain⟨P,ah,av,b0⟩:=ar.done2 z aG.out (λk Z=>Z.imp id (λc=>O));have b3:¬P J.heap.size:=λbX=>by
  have:=S.out;have:=aq.out.lt;rcases z.own _ (b0 _ bX)with(W|W)|W
  ·have:=y.out _ W;omega
  ·omega
  ·omega
 rw[aa]at ah;have j:=Aa (And.intro ah av);have N:=aq.out.touch z.touch (λG=>by
  have:=S.out;rcases G with G|G
  ·have:=y.out _ G;omega
  ·omega)
 have bx:=Aa N;obtain⟨ck,cl,cm,cn,co,cp,cq⟩:=EN N;clear ah av ar z R N cb cc cd ce cf cg ch bo bp bq br bs bt bw aa;by_cases X:g=6
 ·subst X;rw[if_pos rfl]at b;have l:=QB (q:=s1) j.out.1 a (b9.out) am an ao a.nd.pre.length bj a.nd.labels.length bk a.nd.kids.length bl 0;rw[bN.out]at l;have l:=Aa l
  go_wp2_with fail
  refine l.out.mono ?_;rintro c cP⟨rfl,az,bi,T⟩;have u:=Aa (And.intro bi (j.out.2.trans T));have aw:=bx.out.touch T.touch b3;obtain⟨cD,cE,cF,cG,cH,cI,cJ⟩:=EN aw;clear bi T aw l ck cl cm cn co cp cq;by_cases r:t=0
  ·subst r;rw[if_pos rfl]at b
   go_wp2_with fail
   go_ret2;refine⟨by rw[b.out];rfl,az,?_,u.out.2⟩;rw[b.out];exact u.out.1
  ·rw[if_neg r]at b;have t8:(t==0)=false:=ζ r;have t9:(t !=0)=true:=by rw[bne_iff_ne];exact r
   clear r
   go_wp2_with fail
   go_ret2;refine⟨by rw[b.out];rfl,az,?_,u.out.2⟩;rw[b.out];exact u.out.1
 ·have t6:(g==6)=false:=ζ X;rw[if_neg X]at b;by_cases E:g=0
  ·subst E;rw[if_pos rfl]at b
   go_wp2_with fail
   go_ret2;refine⟨by rw[b.out];rfl,P,?_,j.out.2⟩;rw[b.out];exact j.out.1
  ·have t7:(g==0)=false:=ζ E;have t8:(g !=0)=true:=by simp[E]
   rw[if_neg E]at b
   go_wp2_with fail
   go_ret2;refine⟨by rw[b.out];rfl,P,?_,j.out.2⟩;rw[b.out];exact j.out.1
def sH(h:IU (.up (MU lf)) w x d p L s F)(key:ByteArray)(m:key.size<=1000):
 Calls prog 59 #[Az x,.string key] w (RQ (Ox ⟨.up lf,s⟩ key.data.toList) x d p L F w):=by
 by_cases l:∃c b a,EY s key.data.toList=some (c,b)/\CX c b=some a/\a.nd.val≠0/\a.nd.kids.length=0/\¬16<key.size
 ·obtain⟨c,b,a,e,g,i,j,k⟩:=l;exact yU h key k e g i j
 ·exact yj h key m (λc b a e g i j k=>l ⟨c,b,a,e,g,i,k,j⟩)
def Ali(h:Ix w x d p L s F)(key:ByteArray)(a:key.size<=1000):
 Calls prog 59 #[Az x,.string key] w (Akr (QX s key.data.toList) x d p L F w):=by
 have:=sH (lf:= -1) h key a;rw[oW]at this;exact this
end
