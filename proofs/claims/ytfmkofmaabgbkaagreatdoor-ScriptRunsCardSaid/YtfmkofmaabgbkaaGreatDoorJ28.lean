import Derived.Deep.DeepCutAuto
import Derived.Test.YtfmkofmaabgbkaaGreatDoorJ27
set_option linter.defProp false
set_option maxHeartbeats 32000000
set_option maxRecDepth 100000
open Int renaming toNat_natCast->BJ
open Nat renaming mul_div_cancel_left->qw,le_refl->Ae,lt_of_lt_of_le->Be,le_trans->Bq
open Array renaming getElem?_eq_some_iff->AA
open List renaming getElem?_eq_getElem->Ah,getElem_mem->Cm,mem_singleton->BQ,length_append->AP,mem_append->AB,map_append->CE,getElem_toArray->Aq,getElem_cons_zero->Ai,setIfInBounds_toArray->Af,set_cons_zero->Ak,set_cons_succ->Au,getElem_cons_succ->Aj,map_cons->BM,mem_cons->CG,reverse_append->VI,reverse_singleton->SS,singleton_append->U7
open UInt64 renaming toNat_inj->DN,ofNat->Az,toNat->NY
open Go.Lib renaming hid->Ac
open Go.Value renaming slice->fD,int->fP,bool->fU,agg->gU
open Go.IntKind renaming i64->gZ,u64->ig
open Option renaming some->iC,none->iD
open Bool renaming true->jm,false->jw
open Go renaming World->jD
namespace Go.Proofs.YtfmkofmaabgbkaaGreatDoor
open Go.Proofs.Tryz
def Gd(X:Nat->Prop)(L:Nat)(s0:St)(items:List Kv)(New:List Kv->Prop)(ws':Nat->UInt64):Prop:=∃its,(its=items\/New its)/\Fnd X L s0 its ws'
section
variable{X:Nat->Prop}{L:Nat}{s0 s:St}{items:List Kv}{j:Jb}{B:List Nat}{New:List Kv->Prop}
def Aaw{Good:(Nat->UInt64)->Prop}(lf:Int)(e d:Int)(c:UInt64)(g:List Int)(m:Good j.s.ws)(o:e≠0->∀k,Good (Et j.s (j.made.take k)).ws)
 (i:e=0->∀k,Good (Et {j.s with ws:=Dt j.s.ws (d.toNat/8) c} (g.take k)).ws):dW Good (Eo (qi lf j) e d c g) (EG j e d c g):=by
 unfold Eo EG;by_cases b:e=0
 ·subst b;simp only[ne_eq,not_true_eq_false,if_false];rcases Ut (s:=j.s) (lf:=lf) (d.toNat/8) c m (i rfl 0)with⟨l,a⟩|a
  ·rw[show(qi lf j).s=⟨.up lf,j.s⟩from rfl,a];simp only[if_true];exact dZ _ _ (i rfl)
  ·right;rw[show(qi lf j).s=⟨.up lf,j.s⟩from rfl];generalize JE _ _ _=n at a⊢;obtain⟨q,p⟩:=n;simp only at a⊢;split
   ·exact RY _ _ a
   ·exact QM _ a
 ·rw[jM b,jM b];rcases kM j.made (s:=j.s) (lf:=lf) (o b)with⟨l,a⟩|a
  ·exact .inl ⟨l,by rw[show(qi lf j).s=⟨.up lf,j.s⟩from rfl,show(qi lf j).made=j.made from rfl,a]⟩
  ·exact .inr a
def kN(h:Jj X L s0 items)(g:Grown L s0 j B)(k:Nat):Fnd X L s0 items (Et j.s (j.made.take k)).ws:=by
 obtain⟨t,l,r,q,p,m,n,i⟩:=oD h.ok g;obtain⟨o,e,d,c⟩:=eF j.made k g.ok g.nh;rw[l]at e d c;exact found h (Iu.refl _ _) o (e.trans i) (m.trans c) (λb a=>(d b a).trans (n b a)) (GM _)
def Aax(g:Grown L s0 j B){a:Nat}(u:a<16\/16+s0.sh.BO<=a){b:UInt64}{c:List Int}{its:List Kv}(hF:Jj X L (Et {j.s with ws:=Dt j.s.ws a b} c) its)(l:Iu X s0 (Et {j.s with ws:=Dt j.s.ws a b} c))(k:Nat):
 Fnd X L s0 its (Et {j.s with ws:=Dt j.s.ws a b} (c.take k)).ws:=by
 have p:BG L {j.s with ws:=Dt j.s.ws a b}:=g.ok.words (λt i=>by
  unfold Dt;rw[ku];rw[g.sh]at i;omega)
 obtain⟨q,r,n,m⟩:=eF c k p (λo d e=>g.nh o d e);exact found hF l q r m n (GM _)
def WW{R:Jm×UInt64×Int}{r:Jb×UInt64×Int}(c:Aj4 (Fnd X L s0 items) R r)(h:Jj X L s0 items)(g:Grown L s0 r.1 B)(a:Int)(b:List Int)(m:a.toNat/8<16\/16+s0.sh.BO<=a.toNat/8)
 (hF:r.2.2=0->∃its,(its=items\/New its)/\Jj X L (EG r.1 r.2.2 a r.2.1 b).1 its/\Iu X s0 (EG r.1 r.2.2 a r.2.1 b).1):
 dW (Gd X L s0 items New) (Eo R.1 R.2.2 a R.2.1 b) (EG r.1 r.2.2 a r.2.1 b):=by
 rcases c with⟨lf,rfl⟩|c
 ·refine Aaw lf r.2.2 a r.2.1 b ⟨items,.inl rfl,YD h g⟩ (λ_ k=>⟨items,.inl rfl,kN h g k⟩) (λi k=>?_);obtain⟨its,l,d,e⟩:=hF i;have j:(EG r.1 r.2.2 a r.2.1 b).1=Et {r.1.s with ws:=Dt r.1.s.ws (a.toNat/8) r.2.1} b:=by
   unfold EG;rw[ku (by rw[i];simp),eu]
  rw[j]at d e;exact⟨its,l,Aax g m d e k⟩
 ·exact .inr (Aaq (c.mono λws' h=>⟨items,.inl rfl,h⟩) _ _ _ _)
def XT(h:Jj X L s0 items):Gd X L s0 items New s0.ws:=⟨items,.inl rfl,found h (Iu.refl _ _) h.ok rfl (D6.refl _ _) (λ_ _=>rfl) (GM _)⟩
def Afy(h:Jj X L s items){key:List UInt8}(m:key.length<=16){g:List Pl}{rest:List UInt8}(a:ER s key=iC (g,rest)){d:Pl}(b:g.getLast?=iC d):d.word.toNat/8<16\/16+s.sh.BO<=d.word.toNat/8:=by
 by_cases e:s.ws 9=0
 ·unfold ER at a;rw[e,Es,jM rfl]at a;injection a with a
  injection a with a _
  rw[<-a]at b;cases b
 ·rcases h.tree with⟨c,_⟩|⟨v,c,i,n,w,x⟩
  ·exact absurd c e
  ·obtain⟨u,z,D,C,E,A,parts,q,B,r,t,o,p,j⟩:=around h.ok c i n key m;rw[p]at a;injection a with a
   injection a with a _
   rw[<-a]at b;simp only[List.getLast?_append,List.getLast?_singleton,Option.some_or,Option.some.injEq]at b;subst b;obtain⟨y,k,_,l,_⟩:=j.word h.ok;rw[k,BJ,qw _ U];exact l
def vU(h:Jj X L s items){key:List UInt8}(A:key.length<=16){c:List Pl}{rest:List UInt8}(a:ER s key=iC (c,rest)){m:Nat}{g:Pl}(e:m+1<c.length)(t:c[m]?=iC g):g.word.toNat/8<16\/16+s.sh.BO<=g.word.toNat/8:=by
 by_cases i:s.ws 9=0
 ·unfold ER at a;rw[i,Es,jM rfl]at a;injection a with a
  injection a with a _
  rw[<-a]at e;simp at e
 ·rcases h.tree with⟨d,_⟩|⟨p,d,l,j,z,C⟩
  ·exact absurd d i
  ·have B:=Jl key;obtain⟨K,J,H,I,F,G,u,v,w,x,D,y,M,b,k,_⟩:=oH h.ok m (2*key.length+1) 32 (s.ws 9) items p (Ci key) 0 72 l j O1 O1 d c rest a e;rw[t]at b;injection b with b
   subst b;obtain⟨o,n⟩:=oG h.ok j k;obtain⟨E,q,_,r,_⟩:=n.word h.ok;rw[q,BJ,qw _ U];exact r
def kP(h:Jj X L s items)(key:List UInt8)(m:key.length<=16)(b:UInt64)(p:b≠0)(lf:Int):
 dW (Gd X L s items (λits=>QL items its (Ci key) b)) (N7 ⟨.up lf,s⟩ key b) (Qn s key b):=by
 have l:=dQ h key m b p;have a:∃its,(its=items\/QL items its (Ci key) b)/\Jj X L (Qn s key b).1 its/\Iu X s (Qn s key b).1:=by
  obtain⟨q,⟨_,d,_⟩|⟨_,its,d,i⟩⟩:=l
  ·exact⟨items,.inl rfl,d,q⟩
  ·exact⟨its,.inr i,d,q⟩
 clear l;unfold N7;unfold Qn at a⊢;simp only[ku (show¬16<key.length by omega),ku p]at a⊢;cases n:ER s key with
 |none=>exact .inl ⟨lf,rfl⟩
 |some wr=>
  obtain⟨r,c⟩:=wr;rw[n]at a;simp only at a⊢;cases o:CV r c with
  |some e=>
   rw[o]at a;simp only at a⊢;obtain⟨its,d,i,u⟩:=a;exact Ut _ _ (XT h) ⟨its,d,found i u i.ok rfl (D6.refl _ _) (λ_ _=>rfl) (GM _)⟩
  |none=>
   rw[o]at a;simp only at a⊢;have g:=Grown.start h.ok h.nh;cases k:r.getLast? with
   |none=>
    rw[k]at a;simp only at a⊢;obtain⟨t,j⟩:=KL (c.length+1) g c b;exact WW (WV h (c.length+1) g lf c b) h j 72 [] (.inl U) (λ_=>a)
   |some e=>
    rw[k]at a;simp only at a⊢;obtain⟨t,j⟩:=Aau g e.nd c b;exact WW (Aj5 h g lf e.nd c b) h j e.word [e.off] (Afy h m n k) (λ_=>a)
def Afz(h:Jj X L s items){key:List UInt8}(z:key.length<=16){a:List Pl}{rest:List UInt8}(B:ER s key=iC (a,rest))(lf:Int)
 (hF:(KD ⟨s,[]⟩ a).2≠6->∃its,(its=items\/New its)/\Jj X L (KD ⟨s,[]⟩ a).1 its/\Iu X s (KD ⟨s,[]⟩ a).1):
 dW (Gd X L s items New) (MP ⟨⟨.up lf,s⟩,[]⟩ a) (KD ⟨s,[]⟩ a)/\((KD ⟨s,[]⟩ a).2=6->Gd X L s items New (KD ⟨s,[]⟩ a).1.ws):=by
 have m:=Grown.start h.ok h.nh;have i:∀(j:Jb)(o:Int)(n:UInt64)(d:List Int),(EG j 0 o n d).2≠6:=λj o n d=>by
  unfold EG;rw[ku Θ];rcases YC d {j.s with ws:=Dt j.s.ws (o.toNat/8) n} 0 (.inl rfl)with b|b<;>rw[b]<;>decide
 have g:∀b:Int,dW (Gd X L s items New) (⟨.up lf,s⟩,b) (s,b)/\((s,b).2=(6:Int)->Gd X L s items New (s,b).1.ws):=λb=>⟨.inl ⟨lf,rfl⟩,λ_=>XT h⟩
 unfold MP;unfold KD at hF⊢;cases y:Ho a (a.length-1) [(a.getLast?.map (·.off)).getD 0]with
 |mk e d=>
  rw[y]at hF;cases e with
  |zero=>
   simp only at hF⊢;exact⟨WW (R:=(qi lf ⟨s,[]⟩,0,0)) (r:=(⟨s,[]⟩,0,0)) (.inl ⟨lf,rfl⟩) h m 72 d (.inl U) (λ_=>hF (i _ _ _ _)),λb=>absurd b (i _ _ _ _)⟩
  |succ e=>
   simp only at hF⊢;cases t:a[e]? with
   |none=>exact g 5
   |some c=>
    cases u:a[e+1]? with
    |none=>exact g 5
    |some v=>
     rw[t,u]at hF;simp only at hF⊢;cases w:Jq c.nd.labels v.label with
     |none=>exact g 5
     |some l=>
      rw[w]at hF;simp only at hF⊢;cases x:BU c.nd with
      |false=>exact g 5
      |true=>
       rw[x]at hF;simp only[if_true]at hF⊢;have A:e+1<a.length:=(List.getElem?_eq_some_iff.1 u).1;obtain⟨C,q⟩:=KZ m (Tc c.nd l);refine⟨WW (Uu h m lf (Tc c.nd l)) h q c.word (d++[c.off]) (vU h z B A t) (λk=>hF ?_),λp=>?_⟩
       ·rw[k];exact i _ _ _ _
       ·by_cases k:(FV ⟨s,[]⟩ (Tc c.nd l)).2.2=0
        ·rw[k]at p;exact absurd p (i _ _ _ _)
        ·have:=kN h q (FV ⟨s,[]⟩ (Tc c.nd l)).1.made.length;rw[List.take_length]at this;unfold EG;rw[jM k];exact⟨items,.inl rfl,this⟩
def Af0(h:Jj X L s items)(key:List UInt8)(w:key.length<=16)(lf:Int):
 (∃A,GX ⟨.up lf,s⟩ key=(⟨.up A,(Qo s key).1⟩,(Qo s key).2))\/Dn (Gd X L s items (λits=>TU items its (Ci key))) (GX ⟨.up lf,s⟩ key).1:=by
 have v:=oJ h key w;have a:∃its,(its=items\/TU items its (Ci key))/\Jj X L (Qo s key).1 its/\Iu X s (Qo s key).1:=by
  rcases v with⟨o,_⟩|⟨E,_,_,its,B,C⟩
  ·rw[o];exact⟨items,.inl rfl,h,Iu.refl _ _⟩
  ·exact⟨its,.inr C,B,E⟩
 clear v;unfold GX;unfold Qo at a⊢;simp only[ku (show¬16<key.length by omega)]at a⊢;cases x:ER s key with
 |none=>exact .inl ⟨lf,rfl⟩
 |some wr=>
  obtain⟨q,F⟩:=wr;rw[x]at a;simp only at a⊢;cases D:CV q F with
  |none=>exact .inl ⟨lf,rfl⟩
  |some d=>
   rw[D]at a;simp only at a⊢;by_cases n:d.nd.val=0
   ·rw[jM n,jM n];exact .inl ⟨lf,rfl⟩
   ·rw[ku n]at a;rw[ku n,ku n];by_cases l:d.nd.kids.length=0
    ·rw[jM l]at a;rw[jM l,jM l];obtain⟨y,i⟩:=Afz (New:=λits=>TU items its (Ci key)) h w x lf (λi=>by
      generalize KD ⟨s,[]⟩ q=g at a i⊢;obtain⟨s1,o⟩:=g;simp only at a i⊢;rw[ku i]at a;split at a<;>exact a)
     generalize KD ⟨s,[]⟩ q=g at a y i⊢;obtain⟨s1,o⟩:=g;simp only at a i⊢;rcases y with⟨p,j⟩|j
     ·rw[j];simp only;by_cases k:o=6
      ·rw[jM k]at a;rw[jM k,jM k];obtain⟨its,r,m,t⟩:=a;rcases Ut (s:=s1) (lf:=p) (d.off.toNat/8+2) 0 (i k) (⟨its,r,found m t m.ok rfl (D6.refl _ _) (λ_ _=>rfl) (GM _)⟩:Gd X L s items (λits=>TU items its (Ci key)) _)with⟨u,b⟩|b
       ·left;refine⟨u,?_⟩;show(match JE ⟨.up p,s1⟩ 3 (Dt s1.ws (d.off.toNat/8+2) 0)with|(e,c)=>if c=0 then(e,d.nd.val,0)else(e,0,c))=_;rw[b];rfl
       ·right;show Dn _ (match JE ⟨.up p,s1⟩ 3 (Dt s1.ws (d.off.toNat/8+2) 0)with|(e,c)=>if c=0 then(e,d.nd.val,(0:Int))else(e,0,c)).1;generalize JE _ _ _=g at b⊢;obtain⟨e,c⟩:=g;simp only at b⊢;split<;>exact b
      ·rw[ku k,ku k];split<;>exact .inl ⟨p,rfl⟩
     ·right;generalize MP ⟨⟨.up lf,s⟩,[]⟩ q=g at j⊢;obtain⟨z,G⟩:=g;simp only at j⊢;split
      ·have b:Dn _ (MO z d 0).1:=dX j 3 _;generalize MO z d 0=g at b⊢;obtain⟨e,c⟩:=g;simp only at b⊢;split<;>exact b
      ·split<;>exact j
    ·rw[ku l]at a;rw[ku l,ku l];simp only[if_true]at a⊢;obtain⟨its,r,m,t⟩:=a;rcases Ut (s:=s) (lf:=lf) (d.off.toNat/8+2) 0 (XT h) (⟨its,r,found m t m.ok rfl (D6.refl _ _) (λ_ _=>rfl) (GM _)⟩:Gd X L s items (λits=>TU items its (Ci key)) _)with⟨u,b⟩|b
     ·left;refine⟨u,?_⟩;show(match JE ⟨.up lf,s⟩ 3 (Dt s.ws (d.off.toNat/8+2) 0)with|(e,c)=>if c=0 then(e,d.nd.val,0)else(e,0,c))=_;rw[b];rfl
     ·right;show Dn _ (match JE ⟨.up lf,s⟩ 3 (Dt s.ws (d.off.toNat/8+2) 0)with|(e,c)=>if c=0 then(e,d.nd.val,(0:Int))else(e,0,c)).1;generalize JE _ _ _=g at b⊢;obtain⟨e,c⟩:=g;simp only at b⊢;split<;>exact b
end
open Go.RowKit
def oP{w w':jD}{base n k:Nat}{e:TypeId}{v:Value}{xs:List Value}(h:w.ownsRow base e k v n xs)(b:η w w'):w'.ownsRow base e k v n xs:=
 Ff h (Kept.of_below (r:=iD) b) (by
  rcases h.2 with⟨a,_⟩|⟨g,c,d,a,_⟩
  ·exact .inr (by subst a;rfl)
  ·exact .inl (by subst a;exact λe=>nomatch e))
def An1{w:jD}{base k n:Nat}{e:TypeId}{v:Value}{xs:List Value}(h:w.ownsRow base e k v n xs):∃b c,v=fD b n c/\n<=c/\Rd w b (n*k) xs:=by
 rcases h.2 with⟨a,g⟩|⟨d,q,l,a,g,i,m,r,s,o⟩
 ·subst g;exact⟨iD,0,a,Ae _,h.1,λp=>O1⟩
 ·refine⟨_,_,a,m,h.1,λp=>⟨d,0,rfl,(AA.1 i).1,λj t=>?_⟩⟩;rw[cell_of_row w d _ l _ (0,0) i,<-o,List.getElem?_take,jM O1];simp
def Ld{P:Program}{b:Array Oper}{d:Exit->Act->jD->Prop}{j:Region.Mode}{S:jD->Prop}(i:Nat)(v:Value){c:Oper}{fuel:Nat}{g:Array Bool}{a:Act}{w:jD}(m:S w)(h:wpAnyH P j b d S fuel (g.setIfInBounds i jm) (a.put c.dst v) w)(hi:b[i]?=iC c:=by rfl)
 (e:(Region.noSelect b&&(Region.free j b g i&&(Region.ready j b g).contains i))=true:=by kernel_rfl)(l:∀k a w,d (.panic k) (a.put c.dst v) w->d (.panic k) a w:=by exact λ_ _ _ h=>h)(o:Region.wanted c (yielded b a.tmps)=true:=by rfl)
 (hy:∀w,S w->(execOp a.eval c).run P w=.ok (.value v) w:=by intro w n;clear n;go_simp):wpAnyH P j b d S (fuel+1) g a w:=by
 rw[Bool.and_eq_true,Bool.and_eq_true]at e;exact wpAnyH_take hi e.1 e.2.1 e.2.2 l (.inl ⟨o,hy⟩) m h
def oQ{w:jD}{base n k:Nat}{v:Value}{e:TypeId}{xs:List Value}(h:w.ownsRow base e k v n xs):∀b,v.ownBlock=iC b->base<=b/\b<w.heap.size:=λb a=>by
 rcases h.2 with⟨c,_⟩|⟨l,i,j,c,d,g,_⟩
 ·rw[c]at a;cases a
 ·rw[c]at a;injection a with a
  rw[<-a];exact⟨d,(AA.1 g).1⟩
def FY.touch{w w':jD}{base jb x d p L:Nat}{j:Jm}{G H:Nat->Prop}(h:FY w base jb x d p L j G)(k:Touch H w w')(e:∀g,H g->¬G g)(r:¬H x)(n:¬H 0)(o:¬H 1):FY w' base jb x d p L j G:=by
 obtain⟨F,s,a,c⟩:=h;exact⟨F,s,⟨⟨a.ix.sys.keep k (λi m b=>e i b ((c i).2 (.inl m))) n o,a.ix.box.touch k r,a.ix.out⟩,a.box.touch k (λb=>e _ b ((c _).2 (.inr (.inl rfl)))),Gj a.row k (λl q b=>e _ b ((c l).2 (.inr (.inr q)))),a.fj,a.bj,a.bx,a.bt,a.mj,a.mF,a.mb⟩,c⟩
def FY.base{w:jD}{base jb x d p L:Nat}{j:Jm}{G:Nat->Prop}(h:FY w base jb x d p L j G):x<w.heap.size/\0<w.heap.size/\1<w.heap.size:=by
 obtain⟨F,c,a,b⟩:=h;have:=a.bx;have:=a.bt;have:=a.bj;have:=a.box.lt;omega
structure Aj8(w:jD)(G:Nat->Prop)(g:Nat)(way:List Pl):Prop where
 lt:g<w.heap.size
 out:¬G g
 at_:∀i(hi:i<way.length),∃a b c' d,(∀j u,[a,b,c',d,fP gZ way[i].off,fP .u8 (way[i].label.toNat:Int),fP gZ way[i].word][j]?=iC u->w.cell? (Δ g (i*7+j))=iC u)/\bT w G a b c' d way[i].nd
def UpB(a:Pl):Bool:=(a.nd.val.toNat==0)&&(a.nd.kids.length==1)
def Aay{b:List Pl}{a:Nat}{d:List Int}(h:a+1<b.length)(c:UpB b[a]=jm):Ho b (a+1) d=Ho b a (d++[b[a].off]):=by
 unfold UpB at c;rw[Bool.and_eq_true,beq_iff_eq,beq_iff_eq]at c;rw[Ho,Ah h,Ah (by omega:a<b.length)];simp only;rw[jM ⟨DN.1 (by simpa using c.1),c.2⟩]
def oU{b:List Pl}{a:Nat}{e:List Int}(h:a+1<b.length)(c:UpB b[a]=jw):Ho b (a+1) e=(a+1,e):=by
 unfold UpB at c;rw[Ho,Ah h,Ah (by omega:a<b.length)];simp only;rw[ku (λd=>by
  rw[d.1,d.2]at c;simp at c)]
def kQ{j:Jm}{a:List Pl}{n:Nat}{c:Pl}(g:a.length=n+1)(m:a[n]' O1=c):MP j a=match Ho a n [c.off]with
 |(0,d)=>Eo j 0 72 0 d
 |(e+1,d)=>match a[e]?,a[e+1]? with
  |some b,some i=>match Jq b.nd.labels i.label with
   |some o=>if BU b.nd then match D8 j (Tc b.nd o)with
    |(p,q,k)=>Eo p k b.word q (d++[b.off])
    else(j.s,5)
   |none=>(j.s,5)
  |_,_=>(j.s,5):=by
 have l:a.getLast?=iC c:=by rw[List.getLast?_eq_getElem?,g,Ah O1];exact congrArg iC m
 unfold MP;rw[l,g];rfl
def PrunePost(r:Ms×Int)(base jb x d p L:Nat)(G:Nat->Prop)(w:jD)(e:Ending)(w':jD):Prop:=
 e=.returned (fP gZ r.2)/\∃b a,b.s=r.1/\FY w' base jb x d p L b a/\AL G a w w'
section
variable{w:jD}{base jb x d p L:Nat}{j:Jm}{G:Nat->Prop}
def Af1(h:FY w base jb x d p L j G)(l:List Pl)(g cJ:Nat)(e2:0<l.length)(fb:l.length<=40)(hpl:∀eq∈l,Aen L eq)(e3:L<=1024)(cd:Aj8 w G g l)(e7:j.made.length<=100):
 Calls prog 143 #[ptr0 jb,fD (iC (Φ g)) l.length cJ] w (PrunePost (MP j l) base jb x d p L G w):=by
 have az:=Ac h;have a4:=Ac cd;have cD:=Ac hpl;obtain⟨T,bR⟩:∃T,l.length=T+1:=⟨l.length-1,O1⟩;obtain⟨am,ci⟩:∃am,l[T]' O1=am:=⟨_,rfl⟩;have bX:Hid (∀h,l[T]'h=am):=Ac (λ_=>ci);obtain⟨aq,cU⟩:∃aq,Ho l T [am.off]=aq:=⟨_,rfl⟩;have b3:=Ac cU;have c6:∀K(hi:K<l.length),-9223372036854775808<=l[K].off/\l[K].off<=9223372036854775807:=λK hi=>by
  obtain⟨o,E,e8⟩:=(cD l[K] (Cm hi)).off;rw[E];omega
 have cB:=Ac c6;obtain⟨eO,eS,eW,d0,c0,-⟩:=cd.at_ T O1;have u:=c0 4 _ rfl;rw[show l[T]' O1=am from ci]at u;obtain⟨ar,cl⟩:=ε l.length;have bb:=Ac bR;have cA:=Ac cl;have en:IntKind.i64.wrap ((ar:Int) -1)=(T:Int):=(wrap64 _ O1 O1).trans O1;have c9:T<ar:=O1;have da:(T:Int)<(ar:Int):=O1;obtain⟨dT,cc,cX,dp⟩:=newB w 3 [fP gZ am.off];have c5:dT.ownsRow w.heap.size 3 1 (fD (iC (Φ w.heap.size)) 1 1) 1 [fP gZ am.off]:=by
  rw[cc];exact World.ownsRow_lit w #[fP gZ am.off] 1 (Ae _) U rfl
 have cE:=Ac cc;have dr:=Ac cX;have dz:=Ac c5;clear cX c5 dp cc ci cU c6 c0 h cd hpl;rw[<-cl];clear bR cl;go_enter func143,ntmps143
 go_wp2_with fail
 go_loopw [5,6](λK aX wr=>∃(c:Nat)(i:List Int),K=fP gZ (c:Nat)/\c<l.length/\i.length+c=l.length/\Ho l c i=aq/\(∀o∈i,-9223372036854775808<=o/\o<=9223372036854775807)/\wr.ownsRow w.heap.size 3 1 aX i.length (i.map zv)/\η w wr)(λK _ _=>(intOf K).toNat)
 case atStart=>
  have:=bb.out;exact⟨T,[am.off],rfl,O1,by simp;omega,b3.out,λo E=>by rw[BQ]at E;subst E;rw[<-bX.out O1];exact cB T O1,cE.out▸dz.out,cE.out▸dr.out⟩
 case round=>
  clear en c9 da u;obtain⟨c,i,rfl,e5,eJ,bp,cs,c8,a5⟩:=hrel;have b4:=Ac bp;have b2:=Ac cs;have bc:=Ac c8;have ad:=Ac a5;clear bp cs c8 a5;by_cases eb:c=0
  ·have t1:decide ((0:Int)<(c:Int))=false:=decide_eq_false O1;have t2:((c:Int)==0)=true:=by rw[beq_iff_eq];omega
   have bl:aq=(0,i):=by have:=b4.out;rw[eb]at this;exact this.symm
   have ab:Hid (MP j l=Eo j 0 72 0 i):=Ac (by rw[kQ bb.out (bX (Ω bb.out)),b3.out,bl]);obtain⟨m,n,rfl,e6,b6⟩:=An1 bc.out;have cT:KT wr G m i.length (i.map zv):=⟨by rw[Nat.mul_one]at b6;exact b6,λ_ b dU ef=>by
    subst dU;have bi:=(bc.lt b.block rfl).1;have aa:=az.lt _ ef;omega⟩
   have e4:16<=L:=by
    obtain⟨_,_,ei,_⟩:=az.out;obtain⟨_,_,I,_⟩:=ei.ix.L0;have:=I.fits;have:=I.BO;omega
   have c1:Calls prog 158 #[ptr0 jb,fP gZ 0,fP gZ 72,fP ig 0,fD m i.length n] wr (RP (Eo j 0 72 0 i) base jb x d p L j G wr):=
    RQ (az.below ad.out) 0 72 9 rfl O1 0 m n i cT b2.out O1 O1
   have bt:=Ac c1;clear b6 cT c1 bl
   go_wp2_with fail
   refine bt.mono ?_;rintro e M⟨rfl,V,a6,Z⟩;have cz:=Ac (And.intro a6 ((AL.of_below (F:=G) ad.out).trans Z));clear a6 Z bt
   go_wp2_with fail
   go_ret;refine⟨by rw[ab.out];rfl,_,V,?_,cz.1,cz.2⟩;rw[ab.out]
  ·obtain⟨H,bO⟩:∃H,c=H+1:=⟨c-1,O1⟩;have t1:decide ((0:Int)<(c:Int))=true:=decide_eq_true O1;have fc:IntKind.i64.wrap ((c:Int) -1)=(H:Int):=(wrap64 _ O1 O1).trans O1;have ck:H<l.length:=O1;have c9:H<ar:=Ω cA.out;have da:(H:Int)<(ar:Int):=O1;obtain⟨a,al⟩:∃a,l[H]=a:=⟨_,rfl⟩;obtain⟨eP,eT,eZ,d1,bL,c4⟩:=a4.at_ H ck;rw[al]at bL c4;obtain⟨an,aM,ao,aR,ap,aV,rfl,rfl,rfl,rfl,fa,cm,cn,co⟩:=c4;have ae:∀j aX,_->wr.cell? (Δ g (H*7+j))=iC aX:=λj aX eh=>(ad.cell (p:=Δ g (H*7+j)) a4.lt).trans (bL j aX eh)
   have fk:=ae 1 _ rfl;have fo:=ae 3 _ rfl;have u:=ae 4 _ rfl;have b1:=Ac (cB H ck);rw[al]at b1;cases ah:UpB a with
   |true=>
    have bS:=ah;unfold UpB at bS;rw[Bool.and_eq_true,beq_iff_eq,beq_iff_eq]at bS;have t3:((a.nd.val.toNat:Int)==0)=true:=by rw[beq_iff_eq];omega
    have t4:((a.nd.kids.length:Int)==1)=true:=by rw[beq_iff_eq];omega
    have dg:Hid (Ho l H (i++[a.off])=aq):=Ac (by rw[<-al,<-Aay O1 (by rw[al];exact ah),<-bO];exact b4.out);clear ah bS bL ae cm cn co al;have e9:i.length<=40:=O1
    go_wp2_with(at_builtin;refine BC rfl (.tmp 46) (.tmp 52) 42 rfl Tryz.X9 wr w.heap.size u6 i.length (i.map zv) [fP gZ a.off] rfl (by exact bc.out) rfl wr.heap.size 1 rfl rfl rfl U (by intro aX br;simp at br;subst br;rfl) O1 U (by exact ad.size) ?_;intro e1 n fi cH cF d9 d7)
    have d3:=Ac cH;have ds:=Ac (ad.trans cF);clear cH cF d9 d7
    go_wp2_with fail
    go_roundw
    case rel=>exact⟨H,i++[a.off],by go_num,O1,by rw[AP];simp;omega,dg.out,λo E=>by
     rcases AB.1 E with E|E
     ·exact b2 o E
     ·rw[BQ]at E;subst E;exact b1.out,by rw[AP,CE];exact d3.out,ds.out⟩
    case measure=>simp[intOf];omega
   |false=>
    have eC:=ae 0 _ rfl;have fm:=ae 2 _ rfl;have fq:=ae 5 _ rfl;have fr:=ae 6 _ rfl;rw[Nat.add_zero]at eC;have t2:((c:Int)==0)=false:=ζ O1;have bl:aq=(H+1,i):=by
     have:=b4.out;rw[bO,oU O1 (by rw[al];exact ah)]at this;exact this.symm
    obtain⟨R,ce⟩:∃R,l[H+1]' O1=R:=⟨_,rfl⟩;have cC:Hid (MP j l=match Jq a.nd.labels R.label with
     |some K=>if BU a.nd then match D8 j (Tc a.nd K)with
      |(aJ,aL,e)=>Eo aJ e a.word aL (i++[a.off])
      else(j.s,5)
     |none=>(j.s,5)):=Ac (by
     rw[kQ bb.out (bX (Ω bb.out)),b3.out,bl];simp only;rw[Ah ck,Ah (by omega:H+1<l.length),al,ce])
    obtain⟨eR,eV,e0,d2,cg,-⟩:=a4.at_ (H+1) O1;rw[ce]at cg;have eB:wr.cell? (Δ g (c*7+5))=iC (fP .u8 (R.label.toNat:Int)):=by
     rw[bO];exact(ad.cell (p:=Δ g ((H+1)*7+5)) a4.lt).trans (cg 5 _ rfl)
    have fd:c<ar:=Ω cA.out;have fe:(c:Int)<(ar:Int):=O1;have a0:=cD a (by rw[<-al];exact Cm _);have eD:=((Bh _).1 a0.right).1;have eE:=a0.kids;have eI:=a0.labels;have c7:BU a.nd=true:=a0.right;have dD:=Ac a0;have cY:((a.nd.val.toNat:Int)==0)=jm/\((a.nd.kids.length:Int)==1)=jw\/((a.nd.val.toNat:Int)==0)=false:=by
     unfold UpB at ah;by_cases em:a.nd.val.toNat=0
     ·refine .inl ⟨by rw[beq_iff_eq];omega,?_⟩;rw[em]at ah;rw[beq_eq_false_iff_ne];intro e;have:a.nd.kids.length=1:=O1;rw[this]at ah;simp at ah
     ·exact .inr (by rw[beq_eq_false_iff_ne];omega)
    obtain⟨I,N,dc,ab,bY⟩:∃(I:Bool)(N:Nd),Hid (∀r,η w r->Calls prog 172 #[gU #[fD an a.nd.pre.length aM,fP ig (a.nd.val.toNat:Int),fD ao a.nd.labels.length aR,fD ap a.nd.kids.length aV],fP .u8 (R.label.toNat:Int)] r λe Q=>
     ∃q B t u y C A m D n,e=.returned (.tuple #[gU #[fD q B t,fP ig u,fD y C A,fD m D n],fU I])/\η r Q/\(I=jm->YW Q (r.heap.size+2) (gU #[fD q B t,fP ig u,fD y C A,fD m D n]) N))/\
     Hid (MP j l=if I=jm then(match D8 j N with|(aJ,aL,e)=>Eo aJ e a.word aL (i++[a.off]))else(j.s,5))/\Hid (N.pre.length<=1000/\N.labels.length<=1000/\N.kids.length<=1000):=by
     have cL:=λr(P:η w r)=>(Rd.below cm.1 P:Bs r an a.nd.pre.length a.nd.pre)
     have cM:=λr(P:η w r)=>(Rd.below cn.1 P:Bs r ao a.nd.labels.length a.nd.labels)
     have cN:=λr(P:η w r)=>(Rd.below co.1 P:Ws r ap a.nd.kids.length a.nd.kids)
     cases bN:Jq a.nd.labels R.label with
     |none=>
      refine⟨jw,a.nd,Ac (λr P=>(Aab an ao ap a.nd.pre.length aM a.nd.labels.length aR a.nd.kids.length aV a.nd R.label r O1 O1 O1 (cL r P) (cM r P) (cN r P) (.inl bN)).mono ?_),Ac (by rw[cC.out,bN];rfl),Ac ⟨O1,O1,O1⟩⟩;rintro e Q⟨rfl,a5⟩;exact⟨iD,0,0,0,iD,0,0,iD,0,0,rfl,a5,λh=>Bool.noConfusion h⟩
     |some K=>
      refine⟨jm,Tc a.nd K,Ac (λr P=>(uF an ao ap a.nd.pre.length aM a.nd.labels.length aR a.nd.kids.length aV a.nd R.label K r O1 O1 O1 (cL r P) (cM r P) (cN r P) bN c7).mono ?_),Ac (by rw[cC.out,bN];simp only;rw[jM c7];rfl),Ac ⟨by show a.nd.pre.length<=1000;omega,by unfold Tc JS;simp;omega,by unfold Tc JS;simp;omega⟩⟩;rintro e Q⟨⟨q,t,a8,be,a9,bg,rfl,s1,av,aw⟩,a5⟩;exact⟨q,_,t,_,a8,_,be,a9,_,bg,rfl,a5,λ_=>⟨q,t,a8,be,a9,bg,rfl,s1,av,aw⟩⟩
    obtain⟨z,cW,bH,a1⟩:=newB wr 176 [fD an a.nd.pre.length aM,fP ig (a.nd.val.toNat:Int),fD ao a.nd.labels.length aR,fD ap a.nd.kids.length aV,fP gZ a.off,fP .u8 (a.label.toNat:Int),fP gZ a.word];have bs:=Ac (τ ad.out bH);have dd:z.cell? (Δ g (c*7+5))=iC (fP .u8 (R.label.toNat:Int)):=(bH.cell (p:=Δ g (c*7+5)) (Be a4.lt ad.size)).trans eB;have ew:=a4.lt;have dL:=Ac (oP bc.out bH);have dO:=Ac a1;have aD:Hid (∀X,η z X->X.cell? (Φ wr.heap.size)=iC (fD an a.nd.pre.length aM)/\X.cell? (Δ wr.heap.size 1)=iC (fP ig (a.nd.val.toNat:Int))/\X.cell? (Δ wr.heap.size 2)=iC (fD ao a.nd.labels.length aR)/\X.cell? (Δ wr.heap.size 3)=iC (fD ap a.nd.kids.length aV)/\X.cell? (Δ g (c*7+5))=iC (fP .u8 (R.label.toNat:Int))):=Ac (λX k=>⟨(a1.ξ k).cell 0,(a1.ξ k).cell 1,(a1.ξ k).cell 2,(a1.ξ k).cell 3,(k.cell (p:=Δ g (c*7+5)) (Be ew bs.size)).trans dd⟩);have dG:=Ac cW;have bw:Hid (∀cI,G cI->cI<w.heap.size):=Ac az.lt;clear ah bL ae al cg ce bl a0 bH a1 cW bO cm cn co dd;have bp:∀(bC:Prop),(∀(_:((a.nd.val.toNat:Int)==0)=jm)(_:((a.nd.kids.length:Int)==1)=jw),bC)->(∀(_:((a.nd.val.toNat:Int)==0)=jw),bC)->bC:=λbC bi aa=>by
     rcases cY with⟨h,k⟩|h
     ·exact bi h k
     ·exact aa h
    clear cY;refine bp _ (λt3 t4=>?_) (λt3=>?_)
    all_goals(
     clear bp
     go_wp2_with fail
     rw[<-dG.out]
     go_cut [8,9](λey ez cp=>∃cq q B t u y C A m D n,ey=ptr0 cq/\ez=fU I/\CB cp cq 174 [fD q B t,fP ig u,fD y C A,fD m D n]/\η z cp/\(I=jm->YW cp z.heap.size (gU #[fD q B t,fP ig u,fD y C A,fD m D n]) N))
     case first=>
      refine wp_region_held_drew (S:=(λQ=>Q.cell? (Φ wr.heap.size)=iC (fD an a.nd.pre.length aM)/\Q.cell? (Δ wr.heap.size 1)=iC (fP ig (a.nd.val.toNat:Int))/\Q.cell? (Δ wr.heap.size 2)=iC (fD ao a.nd.labels.length aR)/\Q.cell? (Δ wr.heap.size 3)=iC (fD ap a.nd.kids.length aV)/\Q.cell? (Δ g (c*7+5))=iC (fP .u8 (R.label.toNat:Int)))) Γ (aD _ ((Dr.drew z).below _)) (λv=>?_);refine Ld 0 (ptr0 wr.heap.size) v ?_
      try simp only[Act.put,Aq,Ai,Af,Ak,Au]
      refine Ld 1 (gU #[fD an a.nd.pre.length aM,fP ig (a.nd.val.toNat:Int),fD ao a.nd.labels.length aR,fD ap a.nd.kids.length aV]) v (hy:=λw cb=>by obtain⟨s0,s1,av,aw,ex⟩:=cb;go_simp) ?_
      try simp only[Act.put,Aq,Aj,Ai,Af,Ak,Au]
      refine Ld 2 (fD (iC (Φ g)) ar cJ) v ?_
      try simp only[Act.put,Aq,Aj,Ai,Af,Ak,Au]
      refine Ld 3 (fP gZ (c:Nat)) v ?_
      try simp only[Act.put,Aq,Aj,Ai,Af,Ak,Au]
      refine Ld 4 (.pointer (iC (Δ g (c*7)))) v ?_
      try simp only[Act.put,Aq,Aj,Ai,Af,Ak,Au]
      refine Ld 5 (.pointer (iC (Δ g (c*7+5)))) v ?_
      try simp only[Act.put,Aq,Aj,Ai,Af,Ak,Au]
      refine Ld 6 (fP .u8 (R.label.toNat:Int)) v (hy:=λw cb=>by obtain⟨s0,s1,av,aw,ex⟩:=cb;go_simp) ?_
      try simp only[Act.put,Aq,Aj,Ai,Af,Ak,Au]
      refine wpAnyH_ready (rs:=[7,11]) Γ Θ ?_;refine AllReadyH.cons rfl (λW J=>?_) (AllReadyH.cons rfl (λW J=>?_) AllReadyH.nil)
      ·go_simp;refine(dc.out _ (τ bs.out ((Dr.drew z).below _))).mono ?_;rintro e aZ⟨q,B,t,u,y,C,A,m,D,n,rfl,bJ,b8⟩;have aE:η z aZ:=((Dr.drew z).below _).trans bJ;refine J.out _ _ (aD _ aE) (λv=>?_);clear J W
       try simp only[Act.put,Aq,Aj,Ai,Af,Ak,Au]
       refine Ld 8 (.tuple #[gU #[fD q B t,fP ig u,fD y C A,fD m D n],fU I]) v ?_
       try simp only[Act.put,Aq,Aj,Ai,Af,Ak,Au]
       refine Ld 9 (gU #[fD q B t,fP ig u,fD y C A,fD m D n]) v ?_
       try simp only[Act.put,Aq,Aj,Ai,Af,Ak,Au]
       refine Ld 10 (fU I) v ?_
       try simp only[Act.put,Aq,Aj,Ai,Af,Ak,Au]
       refine wpAnyH_ready (rs:=[11]) Γ Θ ?_;refine AllReadyH.cons rfl (λW J=>?_) AllReadyH.nil;go_simp;refine J.out _ _ (aD _ (aE.alloc aE.size _)) (λv=>?_);clear J W
       try simp only[Act.put,Aq,Aj,Ai,Af,Ak,Au]
       refine wpAnyH_ready (rs:=[12]) Γ Θ ?_;refine AllReadyH.cons rfl (λW J=>?_) AllReadyH.nil;go_simp;obtain⟨bd,aW⟩:=ε (aZ.alloc (.cells #[fD q B t,fP ig u,fD y C A,fD m D n] 174));rw[<-aW];have ct:η aZ bd:=aW▸(Below.refl _ _).alloc (Ae _) _;have b7:CB bd aZ.heap.size 174 [fD q B t,fP ig u,fD y C A,fD m D n]:=aW▸heap_alloc_new _ _;have ba:=τ aE ct;have b9:I=jm->YW bd z.heap.size (gU #[fD q B t,fP ig u,fD y C A,fD m D n]) N:=λh=>((b8 h).below ct).mono (by have:z.drew.heap.size=z.heap.size:=rfl;omega)
       clear aW;refine J.out _ _ (aD _ ba) (λv=>?_);clear J W
       try simp only[Act.put,Aq,Aj,Ai,Af,Ak,Au]
       refine Ld 13 (fU I) v ?_
       try simp only[Act.put,Aq,Aj,Ai,Af,Ak,Au]
       refine wpAnyH_done Γ ?_ _
       go_wp2_with fail
       go_meet
       exact⟨aZ.heap.size,q,B,t,u,y,C,A,m,D,n,rfl,rfl,b7,ba,b9⟩
      ·go_simp;obtain⟨cG,bD⟩:=ε ((z.alloc (.cells #[fD iD 0 0,fP ig 0,fD iD 0 0,fD iD 0 0] 174)).drew);rw[<-bD];have cf:η z cG:=by rw[bD];exact((Below.refl z.heap.size z).alloc (Ae _) _).drew
       have cR:CB cG z.heap.size 174 [fD iD 0 0,fP ig 0,fD iD 0 0,fD iD 0 0]:=by rw[bD];exact heap_alloc_new z (.cells #[fD iD 0 0,fP ig 0,fD iD 0 0,fD iD 0 0] 174)
       have ej:=cR.lt;clear bD;refine J.out _ _ (aD _ cf) (λv=>?_);clear J W
       try simp only[Act.put,Aq,Aj,Ai,Af,Ak,Au]
       refine wpAnyH_ready (rs:=[7]) Γ Θ ?_;refine AllReadyH.cons rfl (λW J=>?_) AllReadyH.nil;go_simp;refine(dc.out _ (τ bs.out cf)).mono ?_;rintro e aZ⟨q,B,t,u,y,C,A,m,D,n,rfl,bJ,b8⟩;have aE:η z aZ:=τ cf bJ;have cQ:=cR.below bJ ej;refine J.out _ _ (aD _ aE) (λv=>?_);clear J W
       try simp only[Act.put,Aq,Aj,Ai,Af,Ak,Au]
       refine Ld 8 (.tuple #[gU #[fD q B t,fP ig u,fD y C A,fD m D n],fU I]) v ?_
       try simp only[Act.put,Aq,Aj,Ai,Af,Ak,Au]
       refine Ld 9 (gU #[fD q B t,fP ig u,fD y C A,fD m D n]) v ?_
       try simp only[Act.put,Aq,Aj,Ai,Af,Ak,Au]
       refine Ld 10 (fU I) v ?_
       try simp only[Act.put,Aq,Aj,Ai,Af,Ak,Au]
       obtain⟨fj,fl,fn,fp,eM,eN,fg,ff⟩:=CS cQ;refine wpAnyH_ready (rs:=[12]) Γ Θ ?_;refine AllReadyH.cons rfl (λW J=>?_) AllReadyH.nil;go_simp;obtain⟨bd,aW,b7,dh,ch⟩:=Ae8 cQ aE (Ae _) (fD q B t) (fP ig u) (fD y C A) (fD m D n);rw[<-aW];have ba:=dh;have b9:I=jm->YW bd z.heap.size (gU #[fD q B t,fP ig u,fD y C A,fD m D n]) N:=λh=>by
        obtain⟨a8,be,a9,bg,cr,bG,e,s1,av,aw⟩:=b8 h;exact⟨a8,be,a9,bg,cr,bG,e,EU (L8 s1 ch O1) O1,EU (L8 av ch O1) O1,EU (L8 aw ch O1) O1⟩
       clear aW;refine J.out _ _ (aD _ ba) (λv=>?_);clear J W
       try simp only[Act.put,Aq,Aj,Ai,Af,Ak,Au]
       refine Ld 13 (fU I) v ?_
       try simp only[Act.put,Aq,Aj,Ai,Af,Ak,Au]
       refine wpAnyH_done Γ ?_ _
       go_wp2_with fail
       go_meet
       exact⟨z.heap.size,q,B,t,u,y,C,A,m,D,n,rfl,rfl,b7,ba,b9⟩
     case rest=>
      obtain⟨cq,q,B,t,u,y,C,A,m,D,n,ek,el,bB,bm,ca⟩:=hcut;subst ek;subst el;have a3:=Ac (τ bs.out bm);cases I with
      |false=>
       clear ca bB bm
       go_wp2_with fail
       go_ret;refine⟨by rw[ab.out];rfl,j,G,?_,az.below a3.out,AL.of_below a3.out⟩;rw[ab.out];rfl
      |true=>
       obtain⟨a8,be,a9,bg,cr,bG,e,s1,av,aw⟩:=ca rfl;simp at e;obtain⟨⟨rfl,rfl,rfl⟩,cK,⟨rfl,rfl,rfl⟩,rfl,rfl,rfl⟩:=e;obtain⟨dS,cV⟩:∃aq,D8 j N=aq:=⟨_,rfl⟩;have bo:=MW (az.below a3.out) N q y m t A n bY.out.1 bY.out.2.1 bY.out.2.2 (CQ s1).2 (CQ av).2 (CQ aw).2 O1;have b0:Hid ((D8 j N).1.made.length<=j.made.length+1):=Ac (KU j N);rw[cV]at bo ab b0;rw[cK]at bB;obtain⟨aJ,aL,b5⟩:=dS;rw[jM rfl]at ab;unfold I7 at bo;simp only at ab b0 bo;have cx:=Ac bo;obtain⟨er,es,et,ev,f0,f1,f2,f3⟩:=CS bB;have cy:=Ac (dO.out.ξ bm);have bA:=Ac (oP dL.out bm);clear ca bB bm s1 av aw cK cV bo
       go_wp2_with fail
       refine cx.mono ?_;rintro e M⟨rfl,V,a6,Z⟩;have dj:=a3.size;have eK:=ad.size;have a2:=cy.touch Z.touch (λh=>Ω (bw _ h));have d4:=a2.cell 4;have d6:=a2.cell 6;have eL:=cy.lt;simp only[List.getElem?_cons_zero,List.getElem?_cons_succ]at d4 d6;have bk:=Gj bA.out Z.touch (λb ac h=>Ψ (bw _ h) ((oQ bA.out b ac).1));have d5:Hid (∀X,η M X->X.ownsRow w.heap.size 3 1 u6 i.length (i.map zv)):=Ac (λX k=>oP bk k);have c3:∀b,u6.ownBlock=iC b->¬V b:=λb ac h=>by
        have bi:=oQ bA.out b ac;rcases Z.own b h with aa|aa
        ·have:=bw _ aa;omega
        ·omega
       have aF:∀b,u6.ownBlock=iC b->w.heap.size<=b/\b≠wr.heap.size:=λb ac=>by
        refine⟨(oQ bA.out b ac).1,λe=>?_⟩;have:=(oQ bc.out b ac).2;omega
       have ec:=az.base;have bx:Hid (∀X,Touch (λb=>u6.ownBlock=iC b) M X->X.cell? (Δ wr.heap.size 4)=iC (fP gZ a.off)/\X.cell? (Δ wr.heap.size 6)=iC (fP gZ a.word)):=Ac (λX k=>⟨(a2.touch k (λe=>(aF _ e).2 rfl)).cell 4,(a2.touch k (λe=>(aF _ e).2 rfl)).cell 6⟩);have dk:¬V wr.heap.size:=λh=>by
        rcases Z.own _ h with aa|aa
        ·have:=bw _ aa;omega
        ·omega
       have dv:Hid (∀X Y,Touch (λb=>u6.ownBlock=iC b) M X->Touch V X Y->Y.cell? (Δ wr.heap.size 4)=iC (fP gZ a.off)/\Y.cell? (Δ wr.heap.size 6)=iC (fP gZ a.word)):=Ac (λX Y k ep=>
        have cw:=(a2.touch k (λe=>(aF _ e).2 rfl)).touch ep dk
        ⟨cw.cell 4,cw.cell 6⟩)
       have dt:Hid (∀X,Touch (λb=>u6.ownBlock=iC b) M X->FY X base jb x d p L aJ V):=Ac (λX k=>a6.touch k c3 (λe=>Ω ((aF _ e).1)) (λe=>Ω ((aF _ e).1)) (λe=>Ω ((aF _ e).1)));have dx:Hid (∀X,Touch (λb=>u6.ownBlock=iC b) M X->AL G V w X):=Ac (λX k=>⟨((AL.of_below a3.out).trans Z).touch.trans k (λb ac=>.inr (aF b ac).1),((AL.of_below a3.out).trans Z).own⟩);have eA:Hid (∀b,u6.ownBlock=iC b\/M.heap.size<=b->¬V b):=Ac (λb bi h=>bi.elim (λaa=>c3 b aa h) (λaa=>Ω (a6.lt b h)));have cj:(i++[a.off]).length=i.length+1:=by simp
       obtain⟨eo,db,c2⟩:=dD.word;have bt:Hid (∀X a7 bE,Touch (λb=>u6.ownBlock=iC b) M X->X.ownsRow w.heap.size 3 1 (fD a7 (i.length+1) bE) (i.length+1) (i.map zv++[fP gZ a.off])->(∀c,a7=iC c->¬V c.block)->Calls prog 158 #[ptr0 jb,fP gZ b5,fP gZ a.word,fP ig (aL.toNat:Int),fD a7 (i.length+1) bE] X (RP (Eo aJ b5 a.word aL (i++[a.off])) base jb x d p L aJ V X)):=Ac (λX a7 bE k ea d8=>by
        rw[<-cj];refine RQ (dt X k) b5 a.word eo db c2 aL a7 bE (i++[a.off]) ⟨?_,λ_ c bh=>d8 c bh⟩ (λo E=>?_) O1 (Ω b0.out)
        ·rw[CE,cj];exact(CQ ea).2
        ·rcases AB.1 E with E|E
         ·exact b2 o E
         ·rw[BQ]at E;subst E;exact b1.out)
       have dl:w.heap.size<=M.heap.size:=Bq dj Z.touch.size;clear db c2 cj a6 Z a2 bk ec cx er es et ev f0 f1 f2 f3
       go_wp2_with fail
       go_region_held_law(λQ=>Q.cell? (Δ wr.heap.size 4)=iC (fP gZ a.off)/\Q.cell? (Δ wr.heap.size 6)=iC (fP gZ a.word))
        (first|exact⟨d4,d6⟩|exact bx _ (Touch.refl _ _)|exact bx _ (Touch.of_below ((Dr.drew M).below _))|exact bx _ (Touch.of_below (((Dr.drew M).below _).alloc (Ae _) _))|exact dv _ _ bq bV.touch|exact bx _ bq)
        (first
        |(refine Oc rfl (.tmp 88) (.tmp 91) 42 rfl Tryz.X9 M w.heap.size u6 i.length (i.map zv) [.int .i64 a.off] (by simp[Act.eval]) (d5 _ (Below.refl _ _)) rfl rfl rfl rfl M.heap.size 1 (by simp[Act.eval]) rfl rfl U (by intro aX br;simp at br;subst br;rfl) O1 U dl ?_;intro cP bG de bk bj cS eg;have bq:Touch (λb=>u6.ownBlock=iC b) M de:=⟨bj.os,bj.tape,bj.output,bj.size,λb ac bR=>cS.2 b ac (λe=>bR e.symm)⟩;have dn:∀c,iC ((Φ cP):Addr)=iC c->¬V c.block:=λc bh=>by injection bh with bh;subst bh;exact eA _ eg)
        |(go_at_call 158;refine(bt de (iC (Φ cP)) bG bq bk dn).mono ?_;rintro e fh ee;obtain⟨ed,dq,cv,bV⟩:=ee;subst ed))
       all_goals(
        have dy:=Ac ((dx _ bq).trans bV);have du:=Ac cv;clear bq bV cv bk bj cS
        go_wp2_with fail
        go_ret;refine⟨by rw[ab.out];rfl,_,dq,?_,du.out,dy.out⟩;rw[ab.out]))
end
def Aj8.Au5{w c l:jD}{F:Nat->Prop}{g:Nat}{way:List Pl}(hF:∀b,F b->b<w.heap.size)(y:w.heap.size<=g)(n:g<c.heap.size)(k:η c l){e:Nat}(t:c.heap.size<=e)
 (o:∀i(hi:i<way.length),∃a b c' d,Aci c w.heap.size g i way[i] a b c' d):Aj8 l (λb=>F b\/b=e) g way:=by
 refine⟨Be n k.size,λh=>h.elim (λh=>Ω (hF _ h)) (λh=>O1),λi hi=>?_⟩;obtain⟨a,b,c',d,m⟩:=o i hi;refine⟨a,b,c',d,λj u r=>?_,?_⟩
 ·rw[k.cell (p:=Δ g (i*7+j)) n,Nat.mul_comm];exact m.cells j u r
 ·have s:bT c (λb=>F b\/b=e) a b c' d way[i].nd:=bT.At4 m.nd (λb v x q=>q.elim (λh=>Ω (hF _ h)) (λh=>O1));exact s.moved (AL.of_below k)
def FY.done2{w g w':jD}{base jb x d p L:Nat}{j:Jm}{F G e:Nat->Prop}(h:FY w' base jb x d p L j e)(m:AL G e g w')(c:η w g)(k:∀a,G a->F a\/w.heap.size<=a):∃b,jy w' x d p L j.s b/\AL F b w w'/\∀a,b a->e a:=by
 obtain⟨b,r,o,l⟩:=h;have q:=c.size;refine⟨b,o.ix,⟨(Touch.of_below c).trans m.touch k,λa n=>?_⟩,λa c=>(l a).2 (.inl c)⟩;rcases m.own a ((l a).2 (.inl n))with i|i
 ·exact k a i
 ·exact .inr O1
section
variable{w:jD}{x d p L:Nat}{s:St}{F:Nat->Prop}{lf:Int}
def Aaz(h:J6 (.up (MU lf)) w x d p L s F)(key:ByteArray)(a0:¬16<key.size){e:List Pl}{rest:List UInt8}{a:Pl}(o:ER s key.data.toList=iC (e,rest))(H:CV e rest=iC a)(ad:a.nd.val≠0)(a7:a.nd.kids.length=0):
 Calls prog 96 #[ptr0 x,.string key] w (QG (GX ⟨.up lf,s⟩ key.data.toList) x d p L F w):=by
 have bJ:=Ac h;have Q:=Ac (Ih h key O1);have aa:=RS key;rw[ku a0]at Q;obtain⟨cF,b3,I,aF⟩:=h.L0;have cm:16<=L:=Ψ I.fits I.BO;have aW:=Ac (KI h key O1);obtain⟨v,bb⟩:=Uf I O1 aF o;have be:=QF o;rw[aa]at bb be;replace bb:rest.length<=32:=O1;replace be:e.length<=33:=O1;have ba:∀al∈e,al.nd.pre.length<=1000:=λal bY=>Ω (((Bh _).1 (v al bY).right).1)
 have bx:=Ac v;have bB:=Ac ba;have bN:=Ac o;have cv:=h.box.lt;have bE:=Ac h.sys.tabs.lt;have y:=Ac h.sys.lt;have ac:a∈e:=by
  have i:=H;unfold CV at i;split at i
  ·cases i
  ·rename_i cE bX;split at i
   ·injection i with i;subst i;exact List.mem_of_getLast? bX
   ·cases i
 have U:0<e.length:=List.length_pos_of_mem ac;have bA:=Ac (v a ac);have bL:=Ac H;have t1:((a.nd.val.toNat:Int)==0)=false:=by
  rw[beq_eq_false_iff_ne];intro c;exact ad (DN.1 (by simp;omega))
 have t2:((a.nd.kids.length:Int)==0)=true:=by rw[beq_iff_eq];omega
 obtain⟨m,X⟩:∃m,MP ⟨⟨.up lf,s⟩,[]⟩ e=m:=⟨_,rfl⟩;obtain⟨s1,g⟩:=m;have bC:=Ac X;obtain⟨⟨bk,t⟩,ae⟩:∃m,MO s1 a 0=m:=⟨_,rfl⟩;have bG:=Ac ae;have b:Hid (GX ⟨.up lf,s⟩ key.data.toList=if g=6 then(if t=0 then(bk,a.nd.val,0)else(bk,0,t))else if g=0 then(s1,a.nd.val,0)else(s1,0,g)):=Ac (by
  unfold GX;rw[aa,ku a0];simp only[o,H,ku ad,jM a7,X,ae])
 clear ae;clear h aa I aF o H v ba ac X a7 ad;go_enter func96,ntmps96
 go_wp2_with fail
 refine Q.mono ?_;rintro c am⟨rfl,rfl⟩;clear Q
 go_wp2_with fail
 refine aW.mono ?_;rintro c am⟨a4,a8⟩;rw[bN.out]at a8;obtain⟨cG,cl,cp,rfl,aV,bc,cr⟩:=a8;have aR:=Ac aV;have bD:=Ac bc;have bw:=Ac a4;clear aV bc a4 aW
 go_wp2_with fail
 refine(H8 aR.out O1 bB.out bD.1 O1).mono ?_;rintro c J⟨B,a9⟩;rw[bL.out]at a9;obtain⟨co,k,c',cq,rfl,b1⟩:=a9;obtain⟨an,bh,ao,bi,ap,bj,c,b4,b5,b6⟩:=b1;simp only[Value.agg.injEq]at c;simp at c;obtain⟨rfl,rfl,rfl,rfl⟩:=c;obtain⟨aZ,bO,rfl,bR,a5,a6,a3⟩:=aR.at (λc=>by rw[c]at U;exact absurd U (Nat.lt_irrefl 0));have aJ:=Ac (τ bw.out B);obtain⟨n,A,C,K⟩:=newB J 176 [fD an a.nd.pre.length bh,fP ig (a.nd.val.toNat:Int),fD ao a.nd.labels.length bi,fD ap a.nd.kids.length bj,fP gZ a.off,fP .u8 (a.label.toNat:Int),fP gZ a.word];have aL:=Ac (τ aJ.out C);have bd:J.heap.size+1=n.heap.size:=by rw[A];simp
 obtain⟨aX,S,D,-⟩:=newB n 249 [ptr0 x,fD iD 0 0];have aM:=Ac (τ aL.out D);have ct:=aL.size;have a1:=og (q:=⟨.up lf,s⟩) (bJ.below aM.out) S (λk Y=>Ω (y k Y)) O1 (Ω bE.out);have aq:η am aX:=τ B (τ C D);have ar:am.heap.size<=n.heap.size:=Bq B.size C.size;have a2:Aj8 aX (λk=>F k\/k=n.heap.size) aZ e:=Aj8.Au5 y.out a5 a6 aq ar a3;have T:=Ac (Af1 a1 e aZ bO U O1 bx.out b3 a2 Θ);rw[bC.out]at T;have M:=K.ξ D;obtain⟨bl,bm,bo,bp,bq,br,bs⟩:=EJ K;obtain⟨b7,b8,b9,ca,cb,cc,cd⟩:=EJ M;have av:=Ac M;have bH:=Ac A;have b2:=Ac S;have R:=Ac bd;rw[A]at bl bm bo bp bq br bs;clear b4 b5 b6 B C K M A S D a1 aq ar a2 a3 bR a5 a6 bd
 go_wp2_with fail
 rw[<-bH.out,<-b2.out];rw[show J.heap.size+1=n.heap.size from R.out];refine T.mono ?_;rintro c cH⟨rfl,cw,cn,Z,aw,z⟩;simp only at Z⊢;have cs:=aJ.size;obtain⟨P,ah,az,bV⟩:=aw.done2 z aM.out (λk Y=>Y.imp id (λc=>O1));have b0:¬P J.heap.size:=λbS=>by
  have:=R.out;have:=av.lt;rcases z.own _ (bV _ bS)with(V|V)|V
  ·have:=y _ V;omega
  ·omega
  ·omega
 rw[Z]at ah;have j:=Ac (And.intro ah az);have N:=av.touch z.touch (λG=>by
  have:=R.out;rcases G with G|G
  ·have:=y _ G;omega
  ·omega)
 have bt:=Ac N;obtain⟨ce,cf,cg,ch,ci,cj,ck⟩:=EJ N;clear ah az aw z T N b7 b8 b9 ca cb cc cd bl bm bo bp bq br bs Z;by_cases W:g=6
 ·subst W;rw[jM rfl]at b;have l:=RI (q:=s1) j.out.1 a (bA.out) an ao ap a.nd.pre.length bh a.nd.labels.length bi a.nd.kids.length bj 0;rw[bG.out]at l;have l:=Ac l
  go_wp2_with fail
  refine l.out.mono ?_;rintro c cI⟨rfl,aE,bg,ab⟩;have u:=Ac (And.intro bg (j.out.2.trans ab));have aD:=bt.touch ab.touch b0;obtain⟨cx,cy,cz,cA,cB,cC,cD⟩:=EJ aD;clear bg ab aD l ce cf cg ch ci cj ck;by_cases r:t=0
  ·subst r;rw[jM rfl]at b
   go_wp2_with fail
   go_ret2;refine⟨by rw[b.out];rfl,aE,?_,u.2⟩;rw[b.out];exact u.1
  ·rw[ku r]at b;have t8:(t==0)=false:=ζ r;have t9:(t !=0)=true:=by rw[bne_iff_ne];exact r
   clear r
   go_wp2_with fail
   go_ret2;refine⟨by rw[b.out];rfl,aE,?_,u.2⟩;rw[b.out];exact u.1
 ·have t6:(g==6)=false:=ζ W;rw[ku W]at b;by_cases E:g=0
  ·subst E;rw[jM rfl]at b
   go_wp2_with fail
   go_ret2;refine⟨by rw[b.out];rfl,P,?_,j.out.2⟩;rw[b.out];exact j.out.1
  ·have t7:(g==0)=false:=ζ E;have t8:(g !=0)=true:=by simp[E]
   rw[ku E]at b
   go_wp2_with fail
   go_ret2;refine⟨by rw[b.out];rfl,P,?_,j.out.2⟩;rw[b.out];exact j.out.1
def vV(h:J6 (.up (MU lf)) w x d p L s F)(key:ByteArray)(m:key.size<=1000):
 Calls prog 96 #[ptr0 x,.string key] w (QG (GX ⟨.up lf,s⟩ key.data.toList) x d p L F w):=by
 by_cases l:∃c b a,ER s key.data.toList=iC (c,b)/\CV c b=iC a/\a.nd.val≠0/\a.nd.kids.length=0/\¬16<key.size
 ·obtain⟨c,b,a,e,g,i,j,k⟩:=l;exact Aaz h key k e g i j
 ·exact Aaf h key m (λc b a e g i j k=>l ⟨c,b,a,e,g,i,k,j⟩)
end
def Found(L:Nat)(s:St)(G:UInt64->List Kv->(List UInt8->List Lk)->Prop)(ws':Nat->UInt64):Prop:=
 (∀j,j<8->ws' j=s.ws j)/\∃Y b a,G (ws' 8) b a/\E8 Y L (Md ws' s.sh) b a
section
variable{Y Z:Nat->Prop}{L:Nat}{s s1 t:St}{items its:List Kv}{ch c':List UInt8->List Lk}{ws':Nat->UInt64}{G f:UInt64->List Kv->(List UInt8->List Lk)->Prop}
def Found.from(h:Found L s1 G ws')(i:s1.sh=s.sh)(g:∀j,j<8->s1.ws j=s.ws j):Found L s G ws':=by
 obtain⟨c,Y,k,b,d,e⟩:=h;exact⟨λj a=>(c j a).trans (g j a),Y,k,b,d,i▸e⟩
def E8.into(_:E8 Y L s items ch)(ix:Jj Z L t its)(m:Iu (λo=>(∃kv∈items,o∈CX (ch kv.1))\/Y o) s t)(i:∀o,((∃kv∈items,o∈CX (ch kv.1))\/Y o)->Z o)
 (d:∀kv∈its,Dj s kv.2 (c' kv.1)/\kv.2≠0/\∀o∈CX (c' kv.1),(∃kv∈items,o∈CX (ch kv.1))\/Y o)(l:∀k,(∀kv∈its,kv.1≠k)->c' k=[])(j:∀kv∈its,∀kv'∈its,kv.1≠kv'.1->∀o∈CX (c' kv.1),o∉CX (c' kv'.1)):
 E8 (λo=>Z o/\¬∃kv∈its,o∈CX (c' kv.1)) L t its c':=by
 refine⟨ix.congr λo=>⟨λb=>?_,λb=>?_⟩,λkv a=>⟨(d kv a).1.keep m.keep (λo c=>(d kv a).2.2 o c),(d kv a).2.1⟩,l,j,λkv a o c g=>g.2 ⟨kv,a,c⟩⟩
 ·by_cases e:∃kv∈its,o∈CX (c' kv.1)
  ·exact .inl e
  ·exact .inr ⟨b,e⟩
 ·rcases b with⟨kv,a,c⟩|⟨b,_⟩
  ·exact i o ((d kv a).2.2 o c)
  ·exact b
def eH(h:E8 Y L s items ch)(g:BG L s1)(sh:s1.sh=s.sh)(k:D6 s s1 (λ_=>True))(low:∀j,j<16->s1.ws j=s.ws j)(c:dV s1 ws')(i:G (s.ws 8) items ch):Found L s G ws':=by
 obtain⟨e,_,d⟩:=XQ g c;rw[sh]at e d;have a:∀j,j<16->ws' j=s.ws j:=λj b=>(c.low g j O1).trans (low j b)
 exact⟨λj b=>a j O1,_,items,ch,by rw[a 8 U];exact i,h.again e (oL _ _) (k.trans d) (a 9 U) (λ_=>Iff.rfl)⟩
def QN(h:E8 Y L s items ch)(a:G (s.ws 8) items ch):Found L s G s.ws:=eH h h.ix.ok rfl (D6.refl _ _) (λ_ _=>rfl) (GM s) a
def XU(h:E8 Y L s items ch)(m:Fnd (λo=>(∃a∈items,o∈CX (ch a.1))\/Y o) L s its ws')
 (i:∀a∈its,Dj s a.2 (c' a.1)/\a.2≠0/\∀o∈CX (c' a.1),(∃a∈items,o∈CX (ch a.1))\/Y o)(n:∀k,(∀a∈its,a.1≠k)->c' k=[])(l:∀a∈its,∀c∈its,a.1≠c.1->∀o∈CX (c' a.1),o∉CX (c' c.1))(e:G (s.ws 8) its c'):Found L s G ws':=by
 obtain⟨Z,g,p,b⟩:=m;have d:ws' 8=s.ws 8:=b.low 8 U U;exact⟨λj q=>b.low j O1 O1,_,its,c',by rw[d];exact e,h.into p b g i n l⟩
def eQ(h:E8 Y L s items ch)(d:Fnd (λo=>(∃a∈items,o∈CX (ch a.1))\/Y o) L s items ws')(c:G (s.ws 8) items ch):Found L s G ws':=
 XU h d (λa b=>⟨(h.chain a b).1,(h.chain a b).2,λ_ e=>.inl ⟨a,b,e⟩⟩) h.none h.Uo c
def Aa0(h:E8 Y L s items ch)(u:UInt64)(n:G u items ch):Found L s G (Dt s.ws 8 u):=by
 have c:∀j,j≠8->Dt s.ws 8 u j=s.ws j:=λj b=>by unfold Dt;rw[ku b]
 have k:Dt s.ws 8 u 8=u:=by unfold Dt;rw[jM rfl]
 obtain⟨s1,a⟩:∃s1,s1=({s with ws:=Dt s.ws 8 u}:St):=⟨_,rfl⟩;have q:BG L s1:=by rw[a];exact h.ix.ok.words (λt r=>c _ O1)
 have p:D6 s s1 (λ_=>True):=λo d _ e=>⟨by rw[a];exact e,λj b=>by
  have:=h.ix.ok.D5 (e.bounds h.ix.ok).1 b;rw[a];exact c j O1⟩
 obtain⟨i,_,g⟩:=XQ q (GM s1);have l:s1.sh=s.sh:=by rw[a]
 have m:s1.ws=Dt s.ws 8 u:=by rw[a]
 rw[l,m]at i g;exact⟨λj b=>c j O1,_,items,ch,by rw[k];exact n,h.again i (oL _ _) (p.trans g) (c 9 U) (λ_=>Iff.rfl)⟩
end
def getD(q:Ms)(key:List UInt8):UInt64×Int:=match q.pw with
 | .up _=>GR q.s key
 | .down _=>(0,12)
def UC(q:Ms)(key:List UInt8)(v:UInt64):Ms×Int:=match q.pw with
 | .up _=>N7 q key v
 | .down _=>(q,12)
def vW(q:Ms)(key:List UInt8):Ms×UInt64×Int:=match q.pw with
 | .up _=>GX q key
 | .down _=>(q,0,12)
def writeM(q:Ms)(stamp:UInt64)(y:Wr):Ms×UInt64×UInt64×Int:=
 match getD q y.key.data.toList with
 |(c,a)=>if a≠0/\a≠7 then(q,0,0,a)else if y.gone=jm/\c=0 then(q,0,0,0)else
  match IZ q ⟨stamp,c,y.gone,y.text⟩with
  |(g,b,d)=>if d≠0 then(g,0,0,d)else
   match UC g y.key.data.toList b with
   |(i,e)=>if e≠0 then((Dz i (Bf b)).1,0,0,e)else(i,c,b,0)
section
variable{Y Z:Nat->Prop}{L:Nat}{s s1 t:St}{items its:List Kv}{ch c':List UInt8->List Lk}{ws':Nat->UInt64}{G:UInt64->List Kv->(List UInt8->List Lk)->Prop}
def oV{Good:(Nat->UInt64)->Prop}{q:Ms}(h:Dn Good q):∃a,q.pw=.down a:=by
 obtain⟨a,b,_⟩:=h;exact⟨a,b⟩
def An2{Good:(Nat->UInt64)->Prop}{q:Ms}(h:Dn Good q)(key:List UInt8)(v:UInt64):UC q key v=(q,12):=by
 obtain⟨b,a⟩:=oV h;unfold UC;rw[a]
def E8.added(h:E8 Y L s items ch)(r:Rc)(m:DZ r=jm):MG s r=(s,0,6)\/∃s1 o,MG s r=(s1,Az o,0)/\(∀d t,DT s 1=iC (d,t)->(Lj {t with ws:=BX t.ws (d/8) (Ee r)} d).2=0)/\E8 (λp=>Y p\/p=o) L s1 items ch/\
 o<=65536/\0<o/\AU s1 o 1/\wordsAt s1.ws (o/8) 8=Ee r/\D6 s s1 (λ_=>True)/\s1.sh=s.sh/\(∀j,j<16->s1.ws j=s.ws j)/\¬((∃kv∈items,o∈CX (ch kv.1))\/Y o):=by
 rcases Aj1 h.ix r m with b|⟨s1,o,b,n,w,g,l,i,t1,v,ix,k,u,q⟩
 ·exact .inl b
 ·refine .inr ⟨s1,o,b,n,⟨ix.congr λp=>or_assoc,λkv a=>⟨(h.chain kv a).1.keep k (λ_ _=>trivial),(h.chain kv a).2⟩,h.none,h.Uo,λkv a p e c=>?_⟩,l,i,t1,v,k,u,q,g⟩;rcases c with c|rfl
  ·exact h.loose kv a p e c
  ·exact g (.inl ⟨kv,a,e⟩)
def An3(h:E8 Y L s items ch)(r:Rc)(l:DZ r=jm)(lf:Int)(A:G (s.ws 8) items ch):
 (∃H,IZ ⟨.up lf,s⟩ r=(⟨.up H,(MG s r).1⟩,(MG s r).2))\/Dn (Found L s G) (IZ ⟨.up lf,s⟩ r).1:=by
 have M:=h.added r l;unfold IZ;rw[ku (by rw[l];exact λb=>nomatch b)];cases x:DT s 1 with
 |none=>
  refine .inl ⟨lf,?_⟩;unfold MG;rw[ku (by rw[l];exact λb=>nomatch b),x]
 |some aa=>
  obtain⟨a,s1⟩:=aa;obtain⟨n,D,ah,al,v,_,_,V⟩:=OZ h.ix.ok (.inl rfl) x;have N:=v.bounds n;have R:D6 s s1 (λ_=>True):=λo d _ T=>⟨(V o d).2 T,λj _=>by rw[D]⟩
  have y:∀ws',Half s1.ws (BX s1.ws (a/8) (Ee r)) ws'->Found L s G ws':=λws' W=>eH h n ah R (λj _=>by rw[D]) (λj B=>by
   rcases W j with b|b
   ·exact b
   ·rw[b];unfold BX;rw[ku];intro u;refine B a 1 v ⟨u.1,?_⟩;have:=u.2;rw[Iz]at this;have:Bd 1=1:=rfl;omega) A
  obtain⟨c,m⟩:∃c,c=({s1 with ws:=BX s1.ws (a/8) (Ee r)}:St):=⟨_,rfl⟩;have C:(Lj c a).2=0:=by
   obtain⟨av,I,_⟩:=oC (n.words (ws':=BX s1.ws (a/8) (Ee r)) (λar ap=>by
    unfold BX;rw[ku];intro u;have:=n.sh.OI;have:=N.1;omega)) (show Ej {s1 with ws:=BX s1.ws (a/8) (Ee r)} a 1 from v)
   rw[m,I]
  have i:MG s r=((Lj c a).1,Az a,0):=by
   unfold MG;rw[ku (by rw[l];exact λb=>nomatch b),x];simp only;rw[<-m,jM C]
  rcases M with t|⟨ad,o,t,aq,X,ao,an,_,_,_,ae,F,_⟩
  ·rw[t]at i;injection i with _ b
   injection b with _ b
   cases b
  ·have J:ad=(Lj c a).1:=by
    rw[t]at i;injection i
   have Q:Found L s G (Lj c a).1.ws:=by
    rw[<-J];exact(QN X (by rw[F 8 U];exact A)).from ae (λj B=>F j O1)
   have P:Found L s G c.ws:=by
    rw[m];exact y _ (λj=>.inr rfl)
   have p:=Aar (s:=s1) (lf:=lf) (Good:=Found L s G) (Lp (a/8) 8) (BX s1.ws (a/8) (Ee r)) y;rw[<-m]at p;simp only;obtain⟨⟨ab,am⟩,S⟩:∃k,k=JE ⟨.up lf,s1⟩ (Lp (a/8) 8) (BX s1.ws (a/8) (Ee r)):=⟨_,rfl⟩;rw[<-S]at p⊢;rcases p with⟨E,q⟩|g
   ·injection q with q e
    subst q e;simp only[if_true];have z:=vN (s:=c) (lf:=E) (Good:=Found L s G) (a:Int) P Q;obtain⟨⟨ac,b⟩,w⟩:∃k,k=IM ⟨.up E,c⟩ a:=⟨_,rfl⟩;rw[<-w]at z⊢;rcases z with⟨Z,e⟩|g
    ·rw[C]at e;injection e with e K
     subst e K;refine .inl ⟨Z,?_⟩;rw[i];rfl
    ·right;simp only;split
     ·exact g
     ·exact NG g _
   ·right;simp only;split
    ·have:=dY g (a:Int);obtain⟨⟨ac,b⟩,w⟩:∃k,k=IM ab a:=⟨_,rfl⟩;rw[<-w]at this⊢;simp only;split
     ·exact this
     ·exact NG this _
    ·exact NG g _
end
section
variable{Y:Nat->Prop}{L:Nat}{s s1:St}{items items':List Kv}{ch:List UInt8->List Lk}{G:UInt64->List Kv->(List UInt8->List Lk)->Prop}{k:List UInt8}{lk:Lk}{o:Nat}
def An4(h:E8 Y L s items ch):∀p∈CX (ch k),∃a∈items,a.1=k/\p∈CX (ch a.1):=λp c=>by
 by_cases d:∀a∈items,a.1≠k
 ·rw[h.none k d]at c;cases c
 ·obtain⟨a,e⟩:=Classical.not_forall.1 d;obtain⟨g,b⟩:=Classical.not_imp.1 e;have b:=Classical.not_not.1 b;exact⟨a,g,b,by rw[b];exact c⟩
def Af3(h:E8 Y L s1 items ch)(F:Y o)(K:lk.off=o)(V:DZ lk.rc=jm)(ac:o<=65536)(ab:0<o)(Z:Dj s1 lk.rc.next (ch k))(W:∀x∈ch k,x.rc.stamp.toNat<lk.rc.stamp.toNat)
 (X:AU s1 o 1)(aa:wordsAt s1.ws (o/8) 8=Ee lk.rc)(A:QL items items' k (Az o)):
 (∀a∈items',Dj s1 a.2 (Fp ch k lk a.1)/\a.2≠0/\∀p∈CX (Fp ch k lk a.1),(∃a∈items,p∈CX (ch a.1))\/Y p)/\(∀l,(∀a∈items',a.1≠l)->Fp ch k lk l=[])/\
  (∀a∈items',∀P∈items',a.1≠P.1->∀p∈CX (Fp ch k lk a.1),p∉CX (Fp ch k lk P.1)):=by
 have q:∀a∈items',(a=(k,Az o))\/(a∈items/\a.1≠k):=λa g=>(A a).1 g
 have U:(k,Az o)∈items':=(A _).2 (.inl rfl);have s:∀a:Kv,a.1≠k->Fp ch k lk a.1=ch a.1:=λa r=>by unfold Fp;rw[ku r]
 have B:Fp ch k lk k=lk::ch k:=by unfold Fp;rw[jM rfl]
 have z:CX (lk::ch k)=o::CX (ch k):=by unfold CX;rw[BM,K,BJ]
 have M:=An4 (k:=k) h;refine⟨λa g=>?_,λl J=>?_,λm S b H G p i e=>?_⟩
 ·rcases q a g with rfl|⟨y,R⟩
  ·rw[B,z];refine⟨?_,λd=>?_,λp j=>?_⟩
   ·have:=Dj.cons o lk.rc (ch k) X V aa Z W;rw[<-K]at this;exact this
   ·have:=congrArg NY d;rw[Dy O1]at this;simp at this;omega
   ·rcases CG.1 j with rfl|j
    ·exact .inr F
    ·obtain⟨a,u,_,v⟩:=M p j;exact .inl ⟨a,u,v⟩
  ·rw[s a R];exact⟨(h.chain a y).1,(h.chain a y).2,λp j=>.inl ⟨a,y,j⟩⟩
 ·have r:l≠k:=λd=>J _ U d.symm
  unfold Fp;rw[ku r];exact h.none l (λa g d=>J a ((A a).2 (.inr ⟨g,by rw[d];exact r⟩)) d)
 ·have N:∀c:Kv,c∈items->c.1≠k->∀p,p∈CX (ch c.1)->p∈o::CX (ch k)->False:=λc I T p E w=>by
   rcases CG.1 w with rfl|w
   ·exact h.loose c I _ E F
   ·obtain⟨a,u,Q,v⟩:=M p w;exact h.Uo c I a u (by rw[Q];exact T) p E v
  rcases q m S with rfl|⟨C,D⟩
  ·rcases q b H with rfl|⟨t,n⟩
   ·exact G rfl
   ·rw[B,z]at i;rw[s b n]at e;exact N b t n p e i
  ·rw[s m D]at i;rcases q b H with rfl|⟨t,n⟩
   ·rw[B,z]at e;exact N m C D p i e
   ·rw[s b n]at e;exact h.Uo m C b t G p i e
def Af4(h:E8 Y L s items ch)(stamp:UInt64)(y:Wr)(hy:Du y=jm)(aE:stamp.toNat≠0)(aF:∀x∈ch (Ci y.key.data.toList),x.rc.stamp.toNat<stamp.toNat)(lf:Int)(B:G (s.ws 8) items ch)
 (am:∀(o:Nat)(v:UInt64)(its:List Kv),QL items its (Ci y.key.data.toList) (Az o)->G (s.ws 8) its (Fp ch (Ci y.key.data.toList) ⟨o,⟨stamp,v,y.gone,y.text⟩⟩)):
 (∃W,writeM ⟨.up lf,s⟩ stamp y=(⟨.up W,(Ha s stamp y).1⟩,(Ha s stamp y).2))\/Dn (Found L s G) (writeM ⟨.up lf,s⟩ stamp y).1:=by
 have k:y.key.data.toList.length<=16/\y.text.size<=40/\(y.gone=jm->y.text.size=0):=by
  unfold Du at hy;simp only[Bool.and_eq_true,decide_eq_true_eq,Bool.or_eq_true,Bool.not_eq_true']at hy;exact⟨hy.1.1,hy.1.2,λt=>hy.2.resolve_left (by rw[t];simp)⟩
 have ap:∃v a,GR s y.key.data.toList=(v,a)/\Dj s v (ch (Ci y.key.data.toList)):=by
  rcases oN h.ix y.key.data.toList k.1 with⟨v,a,aq,a4⟩|⟨a,ar⟩
  ·exact⟨v,0,a,(h.chain _ aq).1⟩
  ·exact⟨0,7,a,by rw[h.none _ ar];exact .nil⟩
 obtain⟨v,a,t,ao⟩:=ap;unfold writeM Ha;rw[show getD ⟨.up lf,s⟩ y.key.data.toList=(v,a)from t,t];simp only;by_cases q:a≠0/\a≠7
 ·rw[jM q,jM q];exact .inl ⟨lf,rfl⟩
 rw[ku q,ku q];by_cases r:y.gone=jm/\v=0
 ·rw[jM r,jM r];exact .inl ⟨lf,rfl⟩
 rw[ku r,ku r];have E:DZ ⟨stamp,v,y.gone,y.text⟩=true:=(KQ _).2 ⟨aE,k.2.1,k.2.2⟩;have al:=An3 h ⟨stamp,v,y.gone,y.text⟩ E lf B;rcases al with⟨l,ab⟩|b
 ·rw[ab];rcases h.added ⟨stamp,v,y.gone,y.text⟩ E with A|⟨s1,o,A,_,i,aw,av,aL,aR,N,S,u,M⟩
  ·rw[A];simp only;rw[jM U,jM U];exact .inl ⟨l,rfl⟩
  ·rw[A];simp only[ne_eq,not_true_eq_false,if_false];have K:Az o≠0:=λa=>by
    have:=congrArg NY a;rw[Dy O1]at this;simp at this;omega
   have H:s1.ws 8=s.ws 8:=u 8 U;have I:∀ws',Gd (λp=>(∃d∈items,p∈CX (ch d.1))\/(Y p\/p=o)) L s1 items (λits=>QL items its (Ci y.key.data.toList) (Az o)) ws'->Found L s G ws':=λws' aM=>by
    refine Found.from (s1:=s1) ?_ S (λj e=>u j O1);obtain⟨its,rfl|c,J⟩:=aM
    ·exact eQ i J (by rw[H];exact B)
    ·obtain⟨f1,f2,f3⟩:=Af3 (lk:=⟨o,⟨stamp,v,y.gone,y.text⟩⟩) i (.inr rfl) rfl E aw av (ao.keep N (λ_ _=>trivial)) aF aL aR c;exact XU i J f1 f2 f3 (by rw[H];exact am o v its c)
   have an:=kP i.ix y.key.data.toList k.1 (Az o) K l;have aD:UC ⟨.up l,s1⟩ y.key.data.toList (Az o)=N7 ⟨.up l,s1⟩ y.key.data.toList (Az o):=rfl;rw[aD];rcases an with⟨Q,ac⟩|b
   ·rw[ac];obtain⟨g,D⟩:=dQ i.ix y.key.data.toList k.1 (Az o) K;generalize Qn s1 y.key.data.toList (Az o)=a0 at g D⊢;obtain⟨R,X⟩:=a0;simp only at g D⊢;rcases D with⟨rfl,m,_⟩|⟨rfl,its,m,c⟩
    ·simp only[show¬(6:Int)=0 by decide,not_false_eq_true,if_true];have V:Found L s G R.ws:=I _ ⟨items,.inl rfl,found m g m.ok rfl (D6.refl _ _) (λ_ _=>rfl) (GM _)⟩;have az:Bf (Az o)=o:=Jv O1;obtain⟨F,Z,aV,aW,a1,a2⟩:=oI m (o:=o) (.inr (.inr rfl));have T:Found L s G (FM R (Bf (Az o))).1.ws:=by
      rw[az,Z];have aX:D6 s F (λp=>(∃d∈items,p∈CX (ch d.1))\/Y p):=λp z c aJ=>by
       obtain⟨u1,u2⟩:=N p z trivial aJ;obtain⟨u3,u4⟩:=g.keep p z (c.imp id .inl) u1;obtain⟨u5,u6⟩:=aW p z (λa=>M (a▸c)) u3;exact⟨u5,λj e=>((u6 j e).trans (u4 j e)).trans (u2 j e)⟩
      have ah:E8 Y L F items ch:=⟨aV.congr λp=>⟨λ⟨ad,ae⟩=>ad.imp id (λn=>n.resolve_right ae),λn=>⟨n.imp id .inl,λa=>M (a▸n)⟩⟩,
       λd C=>⟨(h.chain d C).1.keep aX (λp c=>.inl ⟨d,C,c⟩),(h.chain d C).2⟩,h.none,h.Uo,h.loose⟩
      have P:∀j,j<9->F.ws j=s.ws j:=λj e=>(a2 j O1).trans ((g.low j O1 O1).trans (u j O1))
      exact(QN ah (by rw[P 8 U];exact B)).from (a1.trans (g.sh.trans S)) (λj e=>P j O1)
     rcases WU (lf:=Q) (Bf (Az o)) V T with⟨aZ,aa⟩|b
     ·rw[aa];exact .inl ⟨aZ,rfl⟩
     ·exact .inr b
    ·simp only[not_true_eq_false,if_false];exact .inl ⟨Q,rfl⟩
   ·right;have b:=b.mono I;generalize N7 ⟨.up l,s1⟩ y.key.data.toList (Az o)=w at b⊢;obtain⟨a7,X⟩:=w;simp only at b⊢;split
    ·exact NG b _
    ·exact b
 ·right;generalize IZ ⟨.up lf,s⟩ ⟨stamp,v,y.gone,y.text⟩=w at b⊢;obtain⟨a6,a5,a3⟩:=w;simp only at b⊢;split
  ·exact b
  ·rw[An2 b];simp only;rw[jM U];exact NG b _
def Aka{Good:(Nat->UInt64)->Prop}{q:Ms}(h:Dn Good q)(stamp:UInt64)(y:Wr):writeM q stamp y=(q,0,0,12):=by
 obtain⟨b,a⟩:=oV h;unfold writeM getD;rw[a];simp only;rw[jM U]
end
def La(q:Ms)(key:List UInt8)(v:UInt64):Ms×Int:=if v=0 then((vW q key).1,(vW q key).2.2)else UC q key v
def Jw(q:Ms)(p:Past):Ms×Int:=
 if p.2.2=0 then(q,0)else if(La q p.1.data.toList p.2.1).2≠0 then La q p.1.data.toList p.2.1 else((Dz (La q p.1.data.toList p.2.1).1 (Bf p.2.2)).1,0)
def PQ(q:Ms):List Past->Ms
 |[]=>q
 |p::a=>if(Jw q p).2≠0 then(Jw q p).1 else PQ (Jw q p).1 a
def Akb{Good:(Nat->UInt64)->Prop}{q:Ms}(h:Dn Good q)(key:List UInt8)(v:UInt64):La q key v=(q,12):=by
 obtain⟨b,a⟩:=oV h;unfold La vW UC;rw[a];simp only;split<;>rfl
def eU{Good:(Nat->UInt64)->Prop}:∀(l:List Past){q:Ms},Dn Good q->PQ q l=q
 |[],_,_=>rfl
 |p::l,q,h=>by
  have c:=Akb h p.1.data.toList p.2.1;have b:Jw q p=(q,0)\/Jw q p=(q,12):=by
   unfold Jw;rw[c];split
   ·exact .inl rfl
   ·exact .inr rfl
  rw[PQ];rcases b with a|a
  ·rw[a,ku Θ];exact eU l h
  ·rw[a,jM (show(12:Int)≠0 by decide)]
section
variable{L:Nat}{s:St}{items items':List Kv}{ch:List UInt8->List Lk}{G:UInt64->List Kv->(List UInt8->List Lk)->Prop}
def Akc{s0:St}(l:CU L s0 items ch){key:ByteArray}(S:key.size<=16){lk:Lk}{o:Nat}(T:lk.off=o)(aM:0<o)(aR:o<=65536)(g:QL items items' (Ci key.data.toList) (Az o))(h:CU L s items' (Fp ch (Ci key.data.toList) lk))
 (z:(lk.rc.next=0/\∀a∈items,a.1≠Ci key.data.toList)\/(lk.rc.next≠0/\(Ci key.data.toList,lk.rc.next)∈items))(lf:Int)(N:G (s.ws 8) items ch)(E:G (s.ws 8) items' (Fp ch (Ci key.data.toList) lk)):
 (∃n,Jw ⟨.up lf,s⟩ (key,lk.rc.next,Az o)=(⟨.up n,(FM (Pj s key.data.toList lk.rc.next).1 o).1⟩,0))\/Dn (Found L s G) (Jw ⟨.up lf,s⟩ (key,lk.rc.next,Az o)).1:=by
 have A:key.data.toList.length<=16:=S;have ar:=XR l S T g h z;obtain⟨k,H⟩:=ε (Ci key.data.toList);rw[<-H]at g h z E;have r:=h.y;have R:(k,Az o)∈items':=(g _).2 (.inl rfl);have W:Fp ch k lk k=lk::ch k:=by unfold Fp;rw[jM rfl]
 have V:∀B,B≠k->Fp ch k lk B=ch B:=λB J=>by unfold Fp;rw[ku J]
 have an:CX (lk::ch k)=o::CX (ch k):=by unfold CX;rw[BM,T,BJ]
 have P:=(h.chain _ R).1;simp only[W]at P;obtain⟨aV,aL,_,_,_,_,ap,_,_,_⟩:=eG h.ix.ok P;have av:∀a∈items,∀p∈CX (ch a.1),∃a∈items',p∈CX (Fp ch k lk a.1):=λa c p e=>by
  by_cases b:a.1=k
  ·rw[b]at e;exact⟨_,R,by rw[W,an];exact List.mem_cons_of_mem _ e⟩
  ·exact⟨a,(g a).2 (.inr ⟨c,b⟩),by rw[V _ b];exact e⟩
 have X:∀a∈items,Dj s a.2 (ch a.1):=λa q=>by
  by_cases b:a.1=k
  ·have aw:a.2=lk.rc.next:=by
    rcases z with⟨_,d⟩|⟨_,d⟩
    ·exact absurd b (d a q)
    ·exact congrArg Prod.snd (l.key q d b)
   rw[aw,b];exact ap
  ·have:=(h.chain a ((g a).2 (.inr ⟨q,b⟩))).1;rw[V _ b]at this;exact this
 have v:∀{New:List Kv->Prop},(∀{t:St}{Z:Nat->Prop}{its:List Kv},Jj Z L t its->New its->its=items)->∀ws',Gd (λp=>(∃a∈items',p∈CX (Fp ch k lk a.1))\/False) L s items' New ws'->Found L s G ws':=λ{New}ad ws' az=>by
  obtain⟨its,rfl|ao,F⟩:=az
  ·exact eQ r F E
  ·have am:=F;obtain⟨Z,_,w,_⟩:=am;have:=ad w ao;subst this;exact XU r F (λa q=>⟨X a q,(l.chain a q).2,λp g=>.inl (av a q p g)⟩) l.none l.Uo N
 have Q:((∃n,La ⟨.up lf,s⟩ key.data.toList lk.rc.next=(⟨.up n,(Pj s key.data.toList lk.rc.next).1⟩,(Pj s key.data.toList lk.rc.next).2))\/Dn (Found L s G) (La ⟨.up lf,s⟩ key.data.toList lk.rc.next).1)/\Found L s G (Pj s key.data.toList lk.rc.next).1.ws:=by
  unfold La Pj;rcases z with⟨u,d⟩|⟨u,d⟩
  ·have hcut:∀{t:St}{Z:Nat->Prop}{its:List Kv},Jj Z L t its->TU items' its (Ci key.data.toList)->its=items:=λw hcut=>Zu w.up l.ix.up (λx=>by
    rw[hcut x,g x,<-H];constructor
    ·rintro⟨rfl|⟨c,_⟩,e⟩
     ·exact absurd rfl e
     ·exact c
    ·exact λc=>⟨.inr ⟨c,d x c⟩,d x c⟩)
   simp only[jM u];refine⟨?_,?_⟩
   ·rcases Af0 r.ix key.data.toList A lf with⟨n,b⟩|m
    ·exact .inl ⟨n,by rw[show vW ⟨.up lf,s⟩ key.data.toList=GX ⟨.up lf,s⟩ key.data.toList from rfl,b]⟩
    ·exact .inr (m.mono (v hcut))
   ·rcases oJ r.ix key.data.toList A with⟨b,_⟩|⟨C,b,aJ,D,i,ae⟩
    ·rw[b];exact QN r E
    ·exact v hcut _ ⟨D,.inr ae,found i C i.ok rfl (D6.refl _ _) (λ_ _=>rfl) (GM _)⟩
  ·have M:∀{t:St}{Z:Nat->Prop}{its:List Kv},Jj Z L t its->QL items' its (Ci key.data.toList) lk.rc.next->its=items:=λw K=>Zu w.up l.ix.up (λx=>by
    rw[K x,g x,<-H];constructor
    ·rintro(rfl|⟨rfl|⟨c,_⟩,e⟩)
     ·exact d
     ·exact absurd rfl e
     ·exact c
    ·intro c;by_cases b:x.1=k
     ·exact .inl (l.key c d b)
     ·exact .inr ⟨.inr ⟨c,b⟩,b⟩)
   simp only[ku u];refine⟨?_,?_⟩
   ·rcases kP r.ix key.data.toList A lk.rc.next u lf with⟨n,b⟩|m
    ·exact .inl ⟨n,b⟩
    ·exact .inr (m.mono (v M))
   ·obtain⟨C,⟨_,i,_⟩|⟨_,D,i,K⟩⟩:=dQ r.ix key.data.toList A lk.rc.next u
    ·exact v M _ ⟨items',.inl rfl,found i C i.ok rfl (D6.refl _ _) (λ_ _=>rfl) (GM _)⟩
    ·exact v M _ ⟨D,.inr K,found i C i.ok rfl (D6.refl _ _) (λ_ _=>rfl) (GM _)⟩
 obtain⟨s1,aW,Y,aa,e,I⟩:=ar;have J:Az o≠0:=λb=>by
  have:=congrArg NY b;rw[Dy O1]at this;simp at this;omega
 have aq:Bf (Az o)=o:=Jv O1;unfold Jw;rw[ku J];simp only;rw[Y]at Q⊢;obtain⟨⟨aD,ab⟩|m,ah⟩:=Q
 ·rw[ab];simp only[ne_eq,not_true_eq_false,if_false];rw[aq];have al:Found L s G (FM s1 o).1.ws:=by
   rw[aa];exact(QN e.y (by rw[I.2 8 U U];exact N)).from I.1 (λj aF=>I.2 j O1 O1)
  rcases WU (lf:=aD) (o:Int) ah al with⟨aE,ac⟩|m
  ·rw[ac];exact .inl ⟨aE,rfl⟩
  ·exact .inr m
 ·right;split
  ·exact m
  ·exact NG m _
def Akd{v:UInt64}{l:List Past}{it:List Kv}{c:List UInt8->List Lk}(h:Hist L items ch v l it c):∀{s:St}(lf:Int),CU L s it c->(∀l it c,Hist L items ch v l it c->G (s.ws 8) it c)->
 (∃x,PQ ⟨.up lf,s⟩ l.reverse=⟨.up x,MX s l.reverse⟩)\/Dn (Found L s G) (PQ ⟨.up lf,s⟩ l.reverse):=by
 induction h with
 |nil=>exact λlf _ _=>.inl ⟨lf,rfl⟩
 |skip K _ r=>
  intro s lf b a;rw[VI,SS,U7,MX,jM rfl,PQ,show Jw ⟨.up lf,s⟩ (K,0,0)=(⟨.up lf,s⟩,0)from rfl];simp only[ne_eq,not_true_eq_false,if_false];exact r lf b a
 |add u e m p t g q i I r=>
  intro s lf b a;rename_i o _;obtain⟨s1,N,y,z,H,n⟩:=XR e m p q b i;have F:Az o≠0:=λd=>by
   have:=congrArg NY d;rw[Dy O1]at this;simp at this;omega
  rw[VI,SS,U7,MX,ku F,PQ];rcases Akc e m p t g q b i lf (a _ _ _ u) (a _ _ _ (.add u e m p t g q i I))with⟨M,d⟩|k
  ·rw[d];rw[y]at*;simp only[ne_eq,not_true_eq_false,if_false];rw[Jv g,z];simp only;have A:N.ws 8=s.ws 8:=n.2 8 U U;rcases r M H (λl it c E=>by rw[A];exact a l it c E)with B|⟨w,C,D⟩
   ·exact .inl B
   ·exact .inr ⟨w,C,λws' J=>(D ws' J).from n.1 (λj P=>n.2 j O1 O1)⟩
  ·right;split
   ·exact k
   ·rw[eU _ k];exact k
end
