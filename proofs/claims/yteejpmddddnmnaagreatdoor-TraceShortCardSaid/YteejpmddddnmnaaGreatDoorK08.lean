import Derived.Deep.DeepCutAuto
import Derived.Shelf.SlIterI.Nil
import Derived.Shelf.SortM.Plain
import Derived.Shelf.SortM.SortNone
import Derived.Test.YteejpmddddnmnaaGreatDoorK07
set_option linter.defProp false
set_option maxHeartbeats 32000000
set_option maxRecDepth 100000
open Int renaming toNat_natCast->BC
open Nat renaming mul_div_cancel_left->xh,le_refl->Ae,lt_of_lt_of_le->Bc,le_trans->AZ,zero_add->Du,le_of_eq->IZ
open Array renaming getElem?_eq_some_iff->AL,replicate->Als
open List renaming getElem?_take->Dh,getElem?_eq_getElem->Ag,getElem_mem->BO,mem_singleton->BB,length_append->AO,mem_append->AP,map_append->CJ,getElem_toArray->Au,getElem_cons_zero->Aj,setIfInBounds_toArray->Ah,set_cons_zero->Aq,set_cons_succ->Aw,getElem_cons_succ->Ak,map_cons->Ci,mem_cons->Cb,mem_cons_of_mem->Bi,reverse_append->XG,reverse_singleton->UE,singleton_append->VX,take_append_drop->DY,take_of_length_le->Dq,nil_append->DR,mem_cons_self->Bf,mem_map->CU,map_map->bG,length_map->Df,getElem?_cons_succ->Ai,getElem?_cons_zero->Af,append_assoc->Ba,length_reverse->WN
open UInt64 renaming toNat_inj->Eb,ofNat->Az,toNat->P9
open Go.Lib renaming hid->Ac
open Go.World renaming cell?_of_block->BQ,block_lt_of_cell?->Hq,putObj_heap_other->Tv
namespace Go.Proofs.YteejpmddddnmnaaGreatDoor
open Go.Proofs.Tryz
section
def Gd(X:Nat->Prop)(L:Nat)(s0:St)(nJ:List Kv)(New:List Kv->Prop)(ws':Nat->ni):Prop:=∃its,(its=nJ\/New its)/\Fnd X L s0 its ws'
section
variable{X:Nat->Prop}{L:Nat}{s0 s:St}{nJ:List Kv}{j:Jb}{B:List Nat}{New:List Kv->Prop}
def Aeu{Good:(Nat->ni)->Prop}(lf:Int)(e d:Int)(c:ni)(g:List Int)(m:Good j.s.ws)(o:e≠0->∀k,Good (ET j.s (j.made.take k)).ws)
 (i:e=0->∀k,Good (ET {j.s with ws:=DD j.s.ws (d.toNat/8) c} (g.take k)).ws):jW Good (EP (wX lf j) e d c g) (Fb j e d c g):=by
 unfold EP Fb;by_cases b:e=0
 ·subst b;simp only[ne_eq,not_true_eq_false,if_false];rcases VK (s:=j.s) (lf:=lf) (d.toNat/8) c m (i rfl 0)with⟨l,a⟩|a
  ·rw[show(wX lf j).s=⟨.up lf,j.s⟩from rfl,a];simp only[if_true];exact jZ _ _ (i rfl)
  ·right;rw[show(wX lf j).s=⟨.up lf,j.s⟩from rfl];generalize KG _ _ _=n at a⊢;obtain⟨q,p⟩:=n;simp only at a⊢;split
   ·exact Ul _ _ a
   ·exact Td _ a
 ·rw[kX b,kX b];rcases qJ j.made (s:=j.s) (lf:=lf) (o b)with⟨l,a⟩|a
  ·exact .inl ⟨l,by rw[show(wX lf j).s=⟨.up lf,j.s⟩from rfl,show(wX lf j).made=j.made from rfl,a]⟩
  ·exact .inr a
def qL(h:JQ X L s0 nJ)(g:Grown L s0 j B)(k:Nat):Fnd X L s0 nJ (ET j.s (j.made.take k)).ws:=by
 obtain⟨t,l,q,p,r,m,n,i⟩:=uV h.ok g;obtain⟨o,e,d,c⟩:=kC j.made k g.ok g.nh;rw[l]at e d c;exact found h (Jj.refl _ _) o (e.trans i) (m.trans c) (λb a=>(d b a).trans (n b a)) (Ih _)
def Aev(g:Grown L s0 j B){a:Nat}(u:a<16\/16+s0.sh.CE<=a){b:ni}{c:List Int}{its:List Kv}(hF:JQ X L (ET {j.s with ws:=DD j.s.ws a b} c) its)(l:Jj X s0 (ET {j.s with ws:=DD j.s.ws a b} c))(k:Nat):
 Fnd X L s0 its (ET {j.s with ws:=DD j.s.ws a b} (c.take k)).ws:=by
 have p:BZ L {j.s with ws:=DD j.s.ws a b}:=g.ok.words (λt i=>by
  unfold DD;rw[lg];rw[g.sh]at i;omega)
 obtain⟨q,r,n,m⟩:=kC c k p (λo d e=>g.nh o d e);exact found hF l q r m n (Ih _)
def Y7{R:Jm×ni×Int}{r:Jb×ni×Int}(c:Aoq (Fnd X L s0 nJ) R r)(h:JQ X L s0 nJ)(g:Grown L s0 r.1 B)(a:Int)(b:List Int)(m:a.toNat/8<16\/16+s0.sh.CE<=a.toNat/8)
 (hF:r.2.2=0->∃its,(its=nJ\/New its)/\JQ X L (Fb r.1 r.2.2 a r.2.1 b).1 its/\Jj X s0 (Fb r.1 r.2.2 a r.2.1 b).1):
 jW (Gd X L s0 nJ New) (EP R.1 R.2.2 a R.2.1 b) (Fb r.1 r.2.2 a r.2.1 b):=by
 rcases c with⟨lf,rfl⟩|c
 ·refine Aeu lf r.2.2 a r.2.1 b ⟨nJ,.inl rfl,aY h g⟩ (λ_ k=>⟨nJ,.inl rfl,qL h g k⟩) (λi k=>?_);obtain⟨its,l,d,e⟩:=hF i;have j:(Fb r.1 r.2.2 a r.2.1 b).1=ET {r.1.s with ws:=DD r.1.s.ws (a.toNat/8) r.2.1} b:=by
   unfold Fb;rw[lg (by rw[i];simp),kz]
  rw[j]at d e;exact⟨its,l,Aev g m d e k⟩
 ·exact .inr (Aeo (c.mono λws' h=>⟨nJ,.inl rfl,h⟩) _ _ _ _)
def ZB(h:JQ X L s0 nJ):Gd X L s0 nJ New s0.ws:=⟨nJ,.inl rfl,found h (Jj.refl _ _) h.ok rfl (DV.refl _ _) (λ_ _=>rfl) (Ih _)⟩
def Aj6(h:JQ X L s nJ){key:List nC}(m:key.length<=16){g:List Pl}{nM:List nC}(a:FC s key=some (g,nM)){d:Pl}(b:g.getLast?=some d):d.word.toNat/8<16\/16+s.sh.CE<=d.word.toNat/8:=by
 by_cases e:s.ws 9=0
 ·unfold FC at a;rw[e,ES,kX rfl]at a;injection a with a
  injection a with a _
  rw[<-a]at b;cases b
 ·rcases h.tree with⟨c,_⟩|⟨v,c,i,n,w,x⟩
  ·exact absurd c e
  ·obtain⟨y,C,E,q,F,D,nN,r,B,t,u,o,p,j⟩:=around h.ok c i n key m;rw[p]at a;injection a with a
   injection a with a _
   rw[<-a]at b;simp only[List.getLast?_append,List.getLast?_singleton,Option.some_or,Option.some.injEq]at b;subst b;obtain⟨A,k,_,l,_⟩:=j.word h.ok;rw[k,BC,xh _ U];exact l
def Aak(h:JQ X L s nJ){key:List nC}(B:key.length<=16){c:List Pl}{nM:List nC}(a:FC s key=some (c,nM)){m:Nat}{g:Pl}(e:m+1<c.length)(t:c[m]?=some g):g.word.toNat/8<16\/16+s.sh.CE<=g.word.toNat/8:=by
 by_cases i:s.ws 9=0
 ·unfold FC at a;rw[i,ES,kX rfl]at a;injection a with a
  injection a with a _
  rw[<-a]at e;simp at e
 ·rcases h.tree with⟨d,_⟩|⟨p,d,l,j,A,D⟩
  ·exact absurd d i
  ·have C:=JX key;obtain⟨M,K,I,J,G,H,u,v,w,x,E,y,w',b,k,_⟩:=uY h.ok m (2*key.length+1) 32 (s.ws 9) nJ p (CO key) 0 72 l j O O d c nM a e;rw[t]at b;injection b with b
   subst b;obtain⟨o,n⟩:=uX h.ok j k;obtain⟨F,q,_,r,_⟩:=n.word h.ok;rw[q,BC,xh _ U];exact r
def qM(h:JQ X L s nJ)(key:List nC)(m:key.length<=16)(b:ni)(p:b≠0)(lf:Int):
 jW (Gd X L s nJ (λits=>Tc nJ its (CO key) b)) (OG ⟨.up lf,s⟩ key b) (RZ s key b):=by
 have l:=jQ h key m b p;have a:∃its,(its=nJ\/Tc nJ its (CO key) b)/\JQ X L (RZ s key b).1 its/\Jj X s (RZ s key b).1:=by
  obtain⟨q,⟨_,d,_⟩|⟨_,its,d,j⟩⟩:=l
  ·exact⟨nJ,.inl rfl,d,q⟩
  ·exact⟨its,.inr j,d,q⟩
 clear l;unfold OG;unfold RZ at a⊢;simp only[lg (show¬16<key.length by omega),lg p]at a⊢;cases n:FC s key with
 |none=>exact .inl ⟨lf,rfl⟩
 |some wr=>
  obtain⟨r,c⟩:=wr;rw[n]at a;simp only at a⊢;cases o:Dw r c with
  |some e=>
   rw[o]at a;simp only at a⊢;obtain⟨its,d,j,u⟩:=a;exact VK _ _ (ZB h) ⟨its,d,found j u j.ok rfl (DV.refl _ _) (λ_ _=>rfl) (Ih _)⟩
  |none=>
   rw[o]at a;simp only at a⊢;have i:=Grown.start h.ok h.nh;cases k:r.getLast? with
   |none=>
    rw[k]at a;simp only at a⊢;obtain⟨t,g⟩:=MC (c.length+1) i c b;exact Y7 (Y6 h (c.length+1) i lf c b) h g 72 [] (.inl U) (λ_=>a)
   |some e=>
    rw[k]at a;simp only at a⊢;obtain⟨t,g⟩:=Aes i e.nd c b;exact Y7 (Aor h i lf e.nd c b) h g e.word [e.off] (Aj6 h m n k) (λ_=>a)
def Aj7(h:JQ X L s nJ){key:List nC}(A:key.length<=16){a:List Pl}{nM:List nC}(C:FC s key=some (a,nM))(lf:Int)
 (hF:(LW ⟨s,[]⟩ a).2≠6->∃its,(its=nJ\/New its)/\JQ X L (LW ⟨s,[]⟩ a).1 its/\Jj X s (LW ⟨s,[]⟩ a).1):
 jW (Gd X L s nJ New) (Oj ⟨⟨.up lf,s⟩,[]⟩ a) (LW ⟨s,[]⟩ a)/\((LW ⟨s,[]⟩ a).2=6->Gd X L s nJ New (LW ⟨s,[]⟩ a).1.ws):=by
 have n:=Grown.start h.ok h.nh;have k:∀(j:Jb)(p:Int)(o:ni)(d:List Int),(Fb j 0 p o d).2≠6:=λj p o d=>by
  unfold Fb;rw[lg Θ];rcases aX d {j.s with ws:=DD j.s.ws (p.toNat/8) o} 0 (.inl rfl)with b|b<;>rw[b]<;>decide
 have i:∀b:Int,jW (Gd X L s nJ New) (⟨.up lf,s⟩,b) (s,b)/\((s,b).2=(6:Int)->Gd X L s nJ New (s,b).1.ws):=λb=>⟨.inl ⟨lf,rfl⟩,λ_=>ZB h⟩
 unfold Oj;unfold LW at hF⊢;cases y:I9 a (a.length-1) [(a.getLast?.map (·.off)).getD 0]with
 |mk e d=>
  rw[y]at hF;cases e with
  |zero=>
   simp only at hF⊢;exact⟨Y7 (R:=(wX lf ⟨s,[]⟩,0,0)) (r:=(⟨s,[]⟩,0,0)) (.inl ⟨lf,rfl⟩) h n 72 d (.inl U) (λ_=>hF (k _ _ _ _)),λb=>absurd b (k _ _ _ _)⟩
  |succ e=>
   simp only at hF⊢;cases t:a[e]? with
   |none=>exact i 5
   |some c=>
    cases u:a[e+1]? with
    |none=>exact i 5
    |some v=>
     rw[t,u]at hF;simp only at hF⊢;cases w:Kq c.nd.labels v.label with
     |none=>exact i 5
     |some m=>
      rw[w]at hF;simp only at hF⊢;cases x:CG c.nd with
      |false=>exact i 5
      |true=>
       rw[x]at hF;simp only[if_true]at hF⊢;have B:e+1<a.length:=(List.getElem?_eq_some_iff.1 u).1;obtain⟨D,g⟩:=MS n (UJ c.nd m);refine⟨Y7 (VL h n lf (UJ c.nd m)) h g c.word (d++[c.off]) (Aak h A C B t) (λl=>hF ?_),λq=>?_⟩
       ·rw[l];exact k _ _ _ _
       ·by_cases l:(GN ⟨s,[]⟩ (UJ c.nd m)).2.2=0
        ·rw[l]at q;exact absurd q (k _ _ _ _)
        ·have:=qL h g (GN ⟨s,[]⟩ (UJ c.nd m)).1.made.length;rw[List.take_length]at this;unfold Fb;rw[kX l];exact⟨nJ,.inl rfl,this⟩
def Aj8(h:JQ X L s nJ)(key:List nC)(w:key.length<=16)(lf:Int):
 (∃B,Iq ⟨.up lf,s⟩ key=(⟨.up B,(Si s key).1⟩,(Si s key).2))\/Dn (Gd X L s nJ (λits=>Vr nJ its (CO key))) (Iq ⟨.up lf,s⟩ key).1:=by
 have v:=ve h key w;have a:∃its,(its=nJ\/Vr nJ its (CO key))/\JQ X L (Si s key).1 its/\Jj X s (Si s key).1:=by
  rcases v with⟨o,_⟩|⟨F,_,_,its,C,D⟩
  ·rw[o];exact⟨nJ,.inl rfl,h,Jj.refl _ _⟩
  ·exact⟨its,.inr D,C,F⟩
 clear v;unfold Iq;unfold Si at a⊢;simp only[lg (show¬16<key.length by omega)]at a⊢;cases x:FC s key with
 |none=>exact .inl ⟨lf,rfl⟩
 |some wr=>
  obtain⟨q,G⟩:=wr;rw[x]at a;simp only at a⊢;cases E:Dw q G with
  |none=>exact .inl ⟨lf,rfl⟩
  |some d=>
   rw[E]at a;simp only at a⊢;by_cases n:d.nd.val=0
   ·rw[kX n,kX n];exact .inl ⟨lf,rfl⟩
   ·rw[lg n]at a;rw[lg n,lg n];by_cases l:d.nd.kids.length=0
    ·rw[kX l]at a;rw[kX l,kX l];obtain⟨y,i⟩:=Aj7 (New:=λits=>Vr nJ its (CO key)) h w x lf (λi=>by
      generalize LW ⟨s,[]⟩ q=g at a i⊢;obtain⟨s1,o⟩:=g;simp only at a i⊢;rw[lg i]at a;split at a<;>exact a)
     generalize LW ⟨s,[]⟩ q=g at a y i⊢;obtain⟨s1,o⟩:=g;simp only at a i⊢;rcases y with⟨p,j⟩|j
     ·rw[j];simp only;by_cases k:o=6
      ·rw[kX k]at a;rw[kX k,kX k];obtain⟨its,r,m,t⟩:=a;rcases VK (s:=s1) (lf:=p) (d.off.toNat/8+2) 0 (i k) (⟨its,r,found m t m.ok rfl (DV.refl _ _) (λ_ _=>rfl) (Ih _)⟩:Gd X L s nJ (λits=>Vr nJ its (CO key)) _)with⟨u,b⟩|b
       ·left;refine⟨u,?_⟩;show(match KG ⟨.up p,s1⟩ 3 (DD s1.ws (d.off.toNat/8+2) 0)with|(e,c)=>if c=0 then(e,d.nd.val,0)else(e,0,c))=_;rw[b];rfl
       ·right;show Dn _ (match KG ⟨.up p,s1⟩ 3 (DD s1.ws (d.off.toNat/8+2) 0)with|(e,c)=>if c=0 then(e,d.nd.val,(0:Int))else(e,0,c)).1;generalize KG _ _ _=g at b⊢;obtain⟨e,c⟩:=g;simp only at b⊢;split<;>exact b
      ·rw[lg k,lg k];split<;>exact .inl ⟨p,rfl⟩
     ·right;generalize Oj ⟨⟨.up lf,s⟩,[]⟩ q=g at j⊢;obtain⟨A,H⟩:=g;simp only at j⊢;split
      ·have b:Dn _ (Oi A d 0).1:=jX j 3 _;generalize Oi A d 0=g at b⊢;obtain⟨e,c⟩:=g;simp only at b⊢;split<;>exact b
      ·split<;>exact j
    ·rw[lg l]at a;rw[lg l,lg l];simp only[if_true]at a⊢;obtain⟨its,r,m,t⟩:=a;rcases VK (s:=s) (lf:=lf) (d.off.toNat/8+2) 0 (ZB h) (⟨its,r,found m t m.ok rfl (DV.refl _ _) (λ_ _=>rfl) (Ih _)⟩:Gd X L s nJ (λits=>Vr nJ its (CO key)) _)with⟨u,b⟩|b
     ·left;refine⟨u,?_⟩;show(match KG ⟨.up lf,s⟩ 3 (DD s.ws (d.off.toNat/8+2) 0)with|(e,c)=>if c=0 then(e,d.nd.val,0)else(e,0,c))=_;rw[b];rfl
     ·right;show Dn _ (match KG ⟨.up lf,s⟩ 3 (DD s.ws (d.off.toNat/8+2) 0)with|(e,c)=>if c=0 then(e,d.nd.val,(0:Int))else(e,0,c)).1;generalize KG _ _ _=g at b⊢;obtain⟨e,c⟩:=g;simp only at b⊢;split<;>exact b
end
open Go.RowKit
def vG{w w':World}{pI n k:Nat}{e:TypeId}{v:Value}{xs:List Value}(h:w.ownsRow pI e k v n xs)(f:η w w'):w'.ownsRow pI e k v n xs:=
 FN h (Kept.of_below (r:=none) f) (by
  rcases h.2 with⟨a,_⟩|⟨g,b,c,a,_⟩
  ·exact .inr (by subst a;rfl)
  ·exact .inl (by subst a;exact λe=>nomatch e))
def As2{w:World}{pI k n:Nat}{e:TypeId}{v:Value}{xs:List Value}(h:w.ownsRow pI e k v n xs):∃b c,v=.slice b n c/\n<=c/\Rd w b (n*k) xs:=by
 rcases h.2 with⟨a,d⟩|⟨g,q,l,a,d,i,m,r,s,o⟩
 ·subst d;exact⟨none,0,a,Ae _,h.1,λp=>O⟩
 ·refine⟨_,_,a,m,h.1,λp=>⟨g,0,rfl,(AL.1 i).1,λj t=>?_⟩⟩;rw[cell_of_row w g _ l _ (0,0) i,<-o,Dh,kX O];simp
def Nj{P:Program}{ops:Array Oper}{Q:Exit->Act->World->Prop}{e:Region.Mode}{S:World->Prop}(i:Nat)(v:Value){b:Oper}{fuel:Nat}{d:Array Bool}{a:Act}{w:World}(k:S w)(h:wpAnyH P e ops Q S fuel (d.setIfInBounds i true) (a.put b.dst v) w)(hi:ops[i]?=some b:=by rfl)
 (c:(Region.noSelect ops&&(Region.free e ops d i&&(Region.ready e ops d).contains i))=true:=by kernel_rfl)(j:∀g a w,Q (.panic g) (a.put b.dst v) w->Q (.panic g) a w:=by exact λ_ _ _ h=>h)(m:Region.wanted b (yielded ops a.tmps)=true:=by rfl)
 (hy:∀w,S w->(execOp a.eval b).run P w=.ok (.value v) w:=by intro w l;clear l;go_simp):wpAnyH P e ops Q S (fuel+1) d a w:=by
 rw[Bool.and_eq_true,Bool.and_eq_true]at c;exact wpAnyH_take hi c.1 c.2.1 c.2.2 j (.inl ⟨m,hy⟩) k h
def vH{w:World}{pI n k:Nat}{v:Value}{e:TypeId}{xs:List Value}(h:w.ownsRow pI e k v n xs):∀g,v.ownBlock=some g->pI<=g/\g<w:=λg a=>by
 rcases h.2 with⟨b,_⟩|⟨l,i,j,b,c,d,_⟩
 ·rw[b]at a;cases a
 ·rw[b]at a;injection a with a
  rw[<-a];exact⟨c,(AL.1 d).1⟩
def GV.touch{w w':World}{pI jb x d p L:Nat}{j:Jm}{G H:Nat->Prop}(h:GV w pI jb x d p L j G)(k:Touch H w w')(e:∀i,H i->¬G i)(r:¬H x)(n:¬H 0)(o:¬H 1):GV w' pI jb x d p L j G:=by
 obtain⟨F,v,a,c⟩:=h;exact⟨F,v,⟨⟨a.ix.sys.keep k (λl m b=>e l b ((c l).2 (.inl m))) n o,a.ix.box.touch k r,a.ix.out⟩,a.box.touch k (λb=>e _ b ((c _).2 (.inr (.inl rfl)))),Ie a.row k (λg q b=>e _ b ((c g).2 (.inr (.inr q)))),a.fj,a.bj,a.bx,a.bt,a.mj,a.mF,a.mb⟩,c⟩
def GV.pI{w:World}{pI jb x d p L:Nat}{j:Jm}{G:Nat->Prop}(h:GV w pI jb x d p L j G):x<w.heap.size/\0<w.heap.size/\1<w.heap.size:=by
 obtain⟨F,v,a,b⟩:=h;have:=a.bx;have:=a.bt;have:=a.bj;have:=a.box.lt;omega
structure Aou(w:World)(G:Nat->Prop)(g:Nat)(way:List Pl):Prop where
 lt:g<w
 out:¬G g
 at_:∀i(hi:i<way.length),∃a b c' d,(∀j u,[a,b,c',d,.int .i64 way[i].off,.int .u8 (way[i].label.toNat:Int),.int .i64 way[i].word][j]?=some u->w.cell? (Δ g (i*7+j))=some u)/\jf w G a b c' d way[i].nd
def UpB(a:Pl):Bool:=(a.nd.val.toNat==0)&&(a.nd.kids.length==1)
def Aew{b:List Pl}{a:Nat}{d:List Int}(h:a+1<b.length)(c:UpB b[a]=true):I9 b (a+1) d=I9 b a (d++[b[a].off]):=by
 unfold UpB at c;rw[Bool.and_eq_true,beq_iff_eq,beq_iff_eq]at c;rw[I9,Ag h,Ag (by omega:a<b.length)];simp only;rw[kX ⟨Eb.1 (by simpa using c.1),c.2⟩]
def vI{b:List Pl}{a:Nat}{e:List Int}(h:a+1<b.length)(c:UpB b[a]=false):I9 b (a+1) e=(a+1,e):=by
 unfold UpB at c;rw[I9,Ag h,Ag (by omega:a<b.length)];simp only;rw[lg (λd=>by
  rw[d.1,d.2]at c;simp at c)]
def qN{j:Jm}{a:List Pl}{n:Nat}{c:Pl}(g:a.length=n+1)(m:a[n]' O=c):Oj j a=match I9 a n [c.off]with
 |(0,d)=>EP j 0 72 0 d
 |(e+1,d)=>match a[e]?,a[e+1]? with
  |some b,some i=>match Kq b.nd.labels i.label with
   |some o=>if CG b.nd then match DZ j (UJ b.nd o)with
    |(p,q,k)=>EP p k b.word q (d++[b.off])
    else(j.s,5)
   |none=>(j.s,5)
  |_,_=>(j.s,5):=by
 have l:a.getLast?=some c:=by rw[List.getLast?_eq_getElem?,g,Ag O];exact congrArg some m
 unfold Oj;rw[l,g];rfl
def PrunePost(r:Ms×Int)(pI jb x d p L:Nat)(G:Nat->Prop)(w:World)(e:Ending)(w':World):Prop:=
 e=.returned r.2/\∃b a,b.s=r.1/\GV w' pI jb x d p L b a/\AQ G a w w'
section
variable{w:World}{pI jb x d p L:Nat}{j:Jm}{G:Nat->Prop}
def Aj9(h:GV w pI jb x d p L j G)(i:List Pl)(g cL:Nat)(e4:0<i.length)(fd:i.length<=40)(hpl:∀et∈i,Aiv L et)(e5:L<=1024)(cf:Aou w G g i)(e9:j.made.length<=100):
 Calls prog 138 #[AB jb,.slice (some (Φ g)) i.length cL] w (PrunePost (Oj j i) pI jb x d p L G w):=by
 obtain⟨az,a7,cF⟩:=l9 h cf hpl;obtain⟨n,bX⟩:∃n,i.length=n+1:=⟨i.length-1,O⟩;obtain⟨an,ck⟩:∃an,i[n]' O=an:=⟨_,rfl⟩;have b1:Hid (∀h,i[n]'h=an):=Ac (λ_=>ck);obtain⟨ar,cW⟩:∃ar,I9 i n [an.off]=ar:=⟨_,rfl⟩;have b6:=Ac cW;have c7:∀N(hi:N<i.length),-9223372036854775808<=i[N].off/\i[N].off<=9223372036854775807:=λN hi=>by
  obtain⟨o,J,fa⟩:=(cF i[N] (BO hi)).off;rw[J];omega
 have cD:=Ac c7;obtain⟨eO,eS,eW,d0,c1,-⟩:=cf.at_ n O;have y:=c1 4 _ rfl;rw[show i[n]' O=an from ck]at y;obtain⟨au,cn⟩:=ε i.length;have bd:=Ac bX;have cC:=Ac cn;have en:IntKind.i64.wrap ((au:Int) -1)=(n:Int):=(wrap64 _ O O).trans O;have da:n<au:=O;have db:(n:Int)<(au:Int):=O;obtain⟨d5,ce,cZ,dm⟩:=E5 w 3 [.int .i64 an.off];have c6:d5.ownsRow w 3 1 (.slice (some (Φ w)) 1 1) 1 [.int .i64 an.off]:=by
  rw[ce];exact World.ownsRow_lit w #[.int .i64 an.off] 1 (Ae _) U rfl
 obtain⟨cG,dp,dw⟩:=l9 ce cZ c6;clear cZ c6 dm ce ck cW c7 c1 h cf hpl;rw[<-cn];clear bX cn;go_in;go_wp2_with fail;go_loopw [5,6](λN a0 wr=>∃(b:Nat)(e:List Int),N=.int .i64 (b:Nat)/\b<i.length/\e.length+b=i.length/\I9 i b e=ar/\(∀o∈e,-9223372036854775808<=o/\o<=9223372036854775807)/\wr.ownsRow w 3 1 a0 e.length (e.map zv)/\η w wr)(λN _ _=>(intOf N).toNat)
 case atStart=>
  have:=bd.out;exact⟨n,[an.off],rfl,O,by simp;omega,b6,λo J=>by rw[BB]at J;subst J;rw[<-b1.out O];exact cD n O,cG▸dw.out,cG▸dp.out⟩
 case round=>
  clear en da db y;obtain⟨b,e,rfl,e7,eI,br,cu,c9,f⟩:=hrel;obtain⟨b7,b5,be,ae⟩:=lL br cu c9 f;clear br cu c9 f;by_cases eb:b=0
  ·have t1:decide ((0:Int)<(b:Int))=false:=decide_eq_false O;have t2:((b:Int)==0)=true:=by rw[beq_iff_eq];omega
   have bo:ar=(0,e):=by have:=b7.out;rw[eb]at this;exact this.symm
   have ac:Hid (Oj j i=EP j 0 72 0 e):=Ac (by rw[qN bd.out (b1 (Ω bd.out)),b6.out,bo]);obtain⟨l,r,rfl,e8,co⟩:=As2 be;have cV:MB wr G l e.length (e.map zv):=⟨by rw[Nat.mul_one]at co;exact co,λ_ q d7 ef=>by
    subst d7;have bk:=(be.lt q.block rfl).1;have aa:=az.lt _ ef;omega⟩
   have e6:16<=L:=by
    obtain⟨_,_,ei,_⟩:=az.out;obtain⟨_,_,K,_⟩:=ei.ix.L0;have:=K.fits;have:=K.CE;omega
   have c2:Calls prog 141 #[AB jb,.int .i64 0,.int .i64 72,.int .u64 0,.slice l e.length r] wr (Uf (EP j 0 72 0 e) pI jb x d p L j G wr):=
    Ug (az.below ae) 0 72 9 rfl O 0 l r e cV b5 O O
   have bx:=Ac c2;clear co cV c2 bo;go_wp2_with(refine bx.out.mono ?_;rintro c P⟨rfl,W,a8,ab⟩;have cB:=Ac (And.intro a8 ((mW (F:=G) ae).trans ab));clear a8 ab bx);go_ret;refine⟨by rw[ac.out];rfl,_,W,?_,cB.1,cB.2⟩;rw[ac.out]
  ·obtain⟨m,bW⟩:∃m,b=m+1:=⟨b-1,O⟩;have t1:decide ((0:Int)<(b:Int))=true:=decide_eq_true O;have fe:IntKind.i64.wrap ((b:Int) -1)=(m:Int):=(wrap64 _ O O).trans O;have cm:m<i.length:=O;have da:m<au:=Ω cC.out;have db:(m:Int)<(au:Int):=O;obtain⟨a,am⟩:∃a,i[m]=a:=⟨_,rfl⟩;obtain⟨eP,eT,eZ,d1,bS,c5⟩:=a7.at_ m cm;rw[am]at bS c5;obtain⟨ao,aM,ap,aR,aq,aW,rfl,rfl,rfl,rfl,fc,cp,cq,cr⟩:=c5;have ah:∀j a0,_->wr.cell? (Δ g (m*7+j))=some a0:=λj a0 eh=>(ae.cell (p:=Δ g (m*7+j)) a7.lt).trans (bS j a0 eh)
   have fm:=ah 1 _ rfl;have fq:=ah 3 _ rfl;have y:=ah 4 _ rfl;have b4:=Ac (cD m cm);rw[am]at b4;cases al:UpB a with
   |true=>
    have bY:=al;unfold UpB at bY;rw[Bool.and_eq_true,beq_iff_eq,beq_iff_eq]at bY;have t3:((a.nd.val.toNat:Int)==0)=true:=by rw[beq_iff_eq];omega
    have t4:((a.nd.kids.length:Int)==1)=true:=by rw[beq_iff_eq];omega
    have dl:Hid (I9 i m (e++[a.off])=ar):=Ac (by rw[<-am,<-Aew O (by rw[am];exact al),<-bW];exact b7);clear al bY bS ah cp cq cr am;have fb:e.length<=40:=O;go_wp2_with(at_builtin;refine BU rfl (.tmp 46) (.tmp 52) 117 rfl Tryz.Zj wr w u6 e.length (e.map zv) [.int .i64 a.off] rfl (by exact be) rfl wr 1 rfl rfl rfl U (by intro a0 bt;simp at bt;subst bt;rfl) O U (by exact ae.size) ?_;intro e3 r fk cJ cH d9 es);have eq:=Ac cJ;have d3:=Ac (ae.trans cH);clear cJ cH d9 es;go_wp2;go_roundw
    case rel=>exact⟨m,e++[a.off],by go_num,O,by rw[AO];simp;omega,dl,λo J=>by
     rcases AP.1 J with J|J
     ·exact b5 o J
     ·rw[BB]at J;subst J;exact b4,by rw[AO,CJ];exact eq,d3⟩
    case measure=>simp[intOf];omega
   |false=>
    have eE:=ah 0 _ rfl;have fo:=ah 2 _ rfl;have fs:=ah 5 _ rfl;have ft:=ah 6 _ rfl;rw[Nat.add_zero]at eE;have t2:((b:Int)==0)=false:=ζ O;have bo:ar=(m+1,e):=by
     have:=b7.out;rw[bW,vI O (by rw[am];exact al)]at this;exact this.symm
    obtain⟨V,cg⟩:∃V,i[m+1]' O=V:=⟨_,rfl⟩;have cE:Hid (Oj j i=match Kq a.nd.labels V.label with
     |some N=>if CG a.nd then match DZ j (UJ a.nd N)with
      |(aI,aL,c)=>EP aI c a.word aL (e++[a.off])
      else(j.s,5)
     |none=>(j.s,5)):=Ac (by
     rw[qN bd.out (b1 (Ω bd.out)),b6.out,bo];simp only;rw[Ag cm,Ag (by omega:m+1<i.length),am,cg])
    obtain⟨eR,eV,e0,d2,ci,-⟩:=a7.at_ (m+1) O;rw[cg]at ci;have eC:wr.cell? (Δ g (b*7+5))=some (.int .u8 (V.label.toNat:Int)):=by
     rw[bW];exact(ae.cell (p:=Δ g ((m+1)*7+5)) a7.lt).trans (ci 5 _ rfl)
    have ff:b<au:=Ω cC.out;have fg:(b:Int)<(au:Int):=O;have a3:=cF a (by rw[<-am];exact BO _);have eL:=((BD _).1 a3.right).1;have eM:=a3.kids;have eN:=a3.labels;have c8:CG a.nd=true:=a3.right;have dx:=Ac a3;have c0:((a.nd.val.toNat:Int)==0)=true/\((a.nd.kids.length:Int)==1)=false\/((a.nd.val.toNat:Int)==0)=false:=by
     unfold UpB at al;by_cases em:a.nd.val.toNat=0
     ·refine .inl ⟨by rw[beq_iff_eq];omega,?_⟩;rw[em]at al;rw[beq_eq_false_iff_ne];intro c;have:a.nd.kids.length=1:=O;rw[this]at al;simp at al
     ·exact .inr (by rw[beq_eq_false_iff_ne];omega)
    obtain⟨K,R,df,ac,b2⟩:∃(K:Bool)(R:Nd),Hid (∀u,η w u->Calls prog 188 #[.agg #[.slice ao a.nd.pre.length aM,.int .u64 (a.nd.val.toNat:Int),.slice ap a.nd.labels.length aR,.slice aq a.nd.kids.length aW],.int .u8 (V.label.toNat:Int)] u λc w'=>
     ∃t E v y B H D l I r,c=.returned (.tuple #[.agg #[.slice t E v,.int .u64 y,.slice B H D,.slice l I r],.bool K])/\η u w'/\(K=true->cO w' (u+2) (.agg #[.slice t E v,.int .u64 y,.slice B H D,.slice l I r]) R))/\
     Hid (Oj j i=if K=true then(match DZ j R with|(aI,aL,c)=>EP aI c a.word aL (e++[a.off]))else(j.s,5))/\Hid (R.pre.length<=1000/\R.labels.length<=1000/\R.kids.length<=1000):=by
     have cN:=λu(T:η w u)=>(Rd.below cp.1 T:Bs u ao a.nd.pre.length a.nd.pre)
     have cP:=λu(T:η w u)=>(Rd.below cq.1 T:Bs u ap a.nd.labels.length a.nd.labels)
     have cQ:=λu(T:η w u)=>(Rd.below cr.1 T:Ws u aq a.nd.kids.length a.nd.kids)
     cases bV:Kq a.nd.labels V.label with
     |none=>
      refine⟨false,a.nd,Ac (λu T=>(Ad9 ao ap aq a.nd.pre.length aM a.nd.labels.length aR a.nd.kids.length aW a.nd V.label u O O O (cN u T) (cP u T) (cQ u T) (.inl bV)).mono ?_),Ac (by rw[cE.out,bV];rfl),Ac ⟨O,O,O⟩⟩;rintro c w'⟨rfl,f⟩;exact⟨none,0,0,0,none,0,0,none,0,0,rfl,f,λh=>Bool.noConfusion h⟩
     |some N=>
      refine⟨true,UJ a.nd N,Ac (λu T=>(zD ao ap aq a.nd.pre.length aM a.nd.labels.length aR a.nd.kids.length aW a.nd V.label N u O O O (cN u T) (cP u T) (cQ u T) bV c8).mono ?_),Ac (by rw[cE.out,bV];simp only;rw[kX c8];rfl),Ac ⟨by show a.nd.pre.length<=1000;omega,by unfold UJ Lj;simp;omega,by unfold UJ Lj;simp;omega⟩⟩;rintro c w'⟨⟨t,v,ba,bh,bb,bi,rfl,s1,av,aw⟩,f⟩;exact⟨t,_,v,_,ba,_,bh,bb,_,bi,rfl,f,λ_=>⟨t,v,ba,bh,bb,bi,rfl,s1,av,aw⟩⟩
    obtain⟨C,cY,bQ,a4⟩:=E5 wr 213 [.slice ao a.nd.pre.length aM,.int .u64 (a.nd.val.toNat:Int),.slice ap a.nd.labels.length aR,.slice aq a.nd.kids.length aW,.int .i64 a.off,.int .u8 (a.label.toNat:Int),.int .i64 a.word];have bw:=Ac (τ ae.out bQ);have dd:C.cell? (Δ g (b*7+5))=some (.int .u8 (V.label.toNat:Int)):=(bQ.cell (p:=Δ g (b*7+5)) (Bc a7.lt ae.size)).trans eC;have eD:=a7.lt;have dz:=Ac (vG be bQ);have dA:=Ac a4;have aD:Hid (∀X,η C X->X.cell? (Φ wr)=some (.slice ao a.nd.pre.length aM)/\X.cell? (Δ wr 1)=some (.int .u64 (a.nd.val.toNat:Int))/\X.cell? (Δ wr 2)=some (.slice ap a.nd.labels.length aR)/\X.cell? (Δ wr 3)=some (.slice aq a.nd.kids.length aW)/\X.cell? (Δ g (b*7+5))=some (.int .u8 (V.label.toNat:Int))):=Ac (λX k=>⟨(a4.ξ k).cell 0,(a4.ξ k).cell 1,(a4.ξ k).cell 2,(a4.ξ k).cell 3,(k.cell (p:=Δ g (b*7+5)) (Bc eD bw.size)).trans dd⟩);have dy:=Ac cY;have bA:Hid (∀cK,G cK->cK<w):=Ac az.lt;clear al bS ah am ci cg bo a3 bQ a4 cY bW cp cq cr dd;have br:∀(Q:Prop),(∀(_:((a.nd.val.toNat:Int)==0)=true)(_:((a.nd.kids.length:Int)==1)=false),Q)->(∀(_:((a.nd.val.toNat:Int)==0)=false),Q)->Q:=λQ bk aa=>by
     rcases c0 with⟨h,k⟩|h
     ·exact bk h k
     ·exact aa h
    clear c0;refine br _ (λt3 t4=>?_) (λt3=>?_)
    all_goals(
     clear br;go_wp2_with fail;rw[<-dy.out]
     go_cut [8,9](λeA eB cs=>∃ct t E v y B H D l I r,eA=AB ct/\eB=.bool K/\Cm cs ct 211 [.slice t E v,.int .u64 y,.slice B H D,.slice l I r]/\η C cs/\(K=true->cO cs C (.agg #[.slice t E v,.int .u64 y,.slice B H D,.slice l I r]) R))
     case first=>
      refine wp_region_held_drew (S:=(λw'=>w'.cell? (Φ wr)=some (.slice ao a.nd.pre.length aM)/\w'.cell? (Δ wr 1)=some (.int .u64 (a.nd.val.toNat:Int))/\w'.cell? (Δ wr 2)=some (.slice ap a.nd.labels.length aR)/\w'.cell? (Δ wr 3)=some (.slice aq a.nd.kids.length aW)/\w'.cell? (Δ g (b*7+5))=some (.int .u8 (V.label.toNat:Int)))) Γ (aD _ (mX C)) (λA=>?_);refine Nj 0 (AB wr) A ?_
      try simp only[Act.put,Au,Aj,Ah,Aq,Aw]
      refine Nj 1 (.agg #[.slice ao a.nd.pre.length aM,.int .u64 (a.nd.val.toNat:Int),.slice ap a.nd.labels.length aR,.slice aq a.nd.kids.length aW]) A (hy:=λw cd=>by obtain⟨s0,s1,av,aw,ez⟩:=cd;go_simp) ?_
      try simp only[Act.put,Au,Ak,Aj,Ah,Aq,Aw]
      refine Nj 2 (.slice (some (Φ g)) au cL) A ?_
      try simp only[Act.put,Au,Ak,Aj,Ah,Aq,Aw]
      refine Nj 3 (.int .i64 (b:Nat)) A ?_
      try simp only[Act.put,Au,Ak,Aj,Ah,Aq,Aw]
      refine Nj 4 (.pointer (some (Δ g (b*7)))) A ?_
      try simp only[Act.put,Au,Ak,Aj,Ah,Aq,Aw]
      refine Nj 5 (.pointer (some (Δ g (b*7+5)))) A ?_
      try simp only[Act.put,Au,Ak,Aj,Ah,Aq,Aw]
      refine Nj 6 (.int .u8 (V.label.toNat:Int)) A (hy:=λw cd=>by obtain⟨s0,s1,av,aw,ez⟩:=cd;go_simp) ?_
      try simp only[Act.put,Au,Ak,Aj,Ah,Aq,Aw]
      refine wpAnyH_ready (rs:=[7,11]) Γ Θ ?_;refine AllReadyH.cons rfl (λZ M=>?_) (AllReadyH.cons rfl (λZ M=>?_) AllReadyH.nil)
      ·go_simp;refine(df.out _ (τ bw.out (mX C))).mono ?_;rintro c a1⟨t,E,v,y,B,H,D,l,I,r,rfl,bR,ca⟩;have aE:η C a1:=(mX C).trans bR;refine M.out _ _ (aD _ aE) (λA=>?_);clear M Z
       try simp only[Act.put,Au,Ak,Aj,Ah,Aq,Aw]
       refine Nj 8 (.tuple #[.agg #[.slice t E v,.int .u64 y,.slice B H D,.slice l I r],.bool K]) A ?_
       try simp only[Act.put,Au,Ak,Aj,Ah,Aq,Aw]
       refine Nj 9 (.agg #[.slice t E v,.int .u64 y,.slice B H D,.slice l I r]) A ?_
       try simp only[Act.put,Au,Ak,Aj,Ah,Aq,Aw]
       refine Nj 10 (.bool K) A ?_
       try simp only[Act.put,Au,Ak,Aj,Ah,Aq,Aw]
       refine wpAnyH_ready (rs:=[11]) Γ Θ ?_;refine AllReadyH.cons rfl (λZ M=>?_) AllReadyH.nil;go_simp;refine M.out _ _ (aD _ (aE.alloc aE.size _)) (λA=>?_);clear M Z
       try simp only[Act.put,Au,Ak,Aj,Ah,Aq,Aw]
       refine wpAnyH_ready (rs:=[12]) Γ Θ ?_;refine AllReadyH.cons rfl (λZ M=>?_) AllReadyH.nil;go_simp;obtain⟨bg,a2⟩:=ε (a1.alloc (.cells #[.slice t E v,.int .u64 y,.slice B H D,.slice l I r] 211));rw[<-a2];have cv:η a1 bg:=a2▸ mZ.alloc (Ae _) _;have b9:Cm bg a1 211 [.slice t E v,.int .u64 y,.slice B H D,.slice l I r]:=a2▸heap_alloc_new _ _;have bc:=τ aE cv;have cb:K=true->cO bg C (.agg #[.slice t E v,.int .u64 y,.slice B H D,.slice l I r]) R:=λh=>((ca h).below cv).mono (by have:C.drew.heap.size=C:=rfl;omega)
       clear a2;refine M.out _ _ (aD _ bc) (λA=>?_);clear M Z
       try simp only[Act.put,Au,Ak,Aj,Ah,Aq,Aw]
       refine Nj 13 (.bool K) A ?_
       try simp only[Act.put,Au,Ak,Aj,Ah,Aq,Aw]
       refine wpAnyH_done Γ ?_ _;go_wp2_with fail;go_meet;exact⟨a1,t,E,v,y,B,H,D,l,I,r,rfl,rfl,b9,bc,cb⟩
      ·go_simp;obtain⟨cI,bM⟩:=ε ((C.alloc (.cells #[.slice none 0 0,.int .u64 0,.slice none 0 0,.slice none 0 0] 211)).drew);rw[<-bM];have ch:η C cI:=by rw[bM];exact((Below.refl C C).alloc (Ae _) _).drew
       have cT:Cm cI C 211 [.slice none 0 0,.int .u64 0,.slice none 0 0,.slice none 0 0]:=by rw[bM];exact heap_alloc_new C (.cells #[.slice none 0 0,.int .u64 0,.slice none 0 0,.slice none 0 0] 211)
       have ej:=cT.lt;clear bM;refine M.out _ _ (aD _ ch) (λA=>?_);clear M Z
       try simp only[Act.put,Au,Ak,Aj,Ah,Aq,Aw]
       refine wpAnyH_ready (rs:=[7]) Γ Θ ?_;refine AllReadyH.cons rfl (λZ M=>?_) AllReadyH.nil;go_simp;refine(df.out _ (τ bw.out ch)).mono ?_;rintro c a1⟨t,E,v,y,B,H,D,l,I,r,rfl,bR,ca⟩;have aE:η C a1:=τ ch bR;have cS:=cT.below bR ej;refine M.out _ _ (aD _ aE) (λA=>?_);clear M Z
       try simp only[Act.put,Au,Ak,Aj,Ah,Aq,Aw]
       refine Nj 8 (.tuple #[.agg #[.slice t E v,.int .u64 y,.slice B H D,.slice l I r],.bool K]) A ?_
       try simp only[Act.put,Au,Ak,Aj,Ah,Aq,Aw]
       refine Nj 9 (.agg #[.slice t E v,.int .u64 y,.slice B H D,.slice l I r]) A ?_
       try simp only[Act.put,Au,Ak,Aj,Ah,Aq,Aw]
       refine Nj 10 (.bool K) A ?_
       try simp only[Act.put,Au,Ak,Aj,Ah,Aq,Aw]
       obtain⟨fl,fn,fp,fr,e1,e2,fh,fi⟩:=Dp cS;refine wpAnyH_ready (rs:=[12]) Γ Θ ?_;refine AllReadyH.cons rfl (λZ M=>?_) AllReadyH.nil;go_simp;obtain⟨bg,a2,b9,dg,cj⟩:=Ajh cS aE (Ae _) (.slice t E v) (.int .u64 y) (.slice B H D) (.slice l I r);rw[<-a2];have bc:=dg;have cb:K=true->cO bg C (.agg #[.slice t E v,.int .u64 y,.slice B H D,.slice l I r]) R:=λh=>by
        obtain⟨ba,bh,bb,bi,cx,bO,c,s1,av,aw⟩:=ca h;exact⟨ba,bh,bb,bi,cx,bO,c,FI (N7 s1 cj O) O,FI (N7 av cj O) O,FI (N7 aw cj O) O⟩
       clear a2;refine M.out _ _ (aD _ bc) (λA=>?_);clear M Z
       try simp only[Act.put,Au,Ak,Aj,Ah,Aq,Aw]
       refine Nj 13 (.bool K) A ?_
       try simp only[Act.put,Au,Ak,Aj,Ah,Aq,Aw]
       refine wpAnyH_done Γ ?_ _;go_wp2_with fail;go_meet;exact⟨C,t,E,v,y,B,H,D,l,I,r,rfl,rfl,b9,bc,cb⟩
     case rest=>
      obtain⟨ct,t,E,v,y,B,H,D,l,I,r,ek,el,bL,bp,cc⟩:=hcut;subst ek;subst el;have a6:=Ac (τ bw.out bp);cases K with
      |false=>
       clear cc bL bp;go_wp2;go_ret;refine⟨by rw[ac.out];rfl,j,G,?_,az.below a6,mW a6⟩;rw[ac.out];rfl
      |true=>
       obtain⟨ba,bh,bb,bi,cx,bO,c,s1,av,aw⟩:=cc rfl;simp at c;obtain⟨⟨rfl,rfl,rfl⟩,cM,⟨rfl,rfl,rfl⟩,rfl,rfl,rfl⟩:=c;obtain⟨dU,cX⟩:∃ar,DZ j R=ar:=⟨_,rfl⟩;have bq:=Ot (az.below a6) R t B l v D r b2.out.1 b2.out.2.1 b2.out.2.2 (Dk s1).2 (Dk av).2 (Dk aw).2 O;have b3:Hid ((DZ j R).1.made.length<=j.made.length+1):=Ac (MN j R);rw[cX]at bq ac b3;rw[cM]at bL;obtain⟨aI,aL,b8⟩:=dU;rw[kX rfl]at ac;unfold Js at bq;simp only at ac b3 bq;have cz:=Ac bq;obtain⟨ev,ew,ex,ey,f0,f1,f2,f3⟩:=Dp bL;have cA:=Ac (dA.out.ξ bp);have bE:=Ac (vG dz bp);clear cc bL bp s1 av aw cM cX bq;go_wp2_with fail;refine cz.mono ?_;rintro c P⟨rfl,W,a8,ab⟩;have dh:=a6.size;have eJ:=ae.size;have a5:=cA.touch ab.touch (λh=>Ω (bA _ h));have d4:=a5.c4;have d6:=a5.c6;have eK:=cA.lt;have bm:=Ie bE ab.touch (λq ad h=>Ψ (bA _ h) ((vH bE q ad).1));have er:Hid (∀X,η P X->X.ownsRow w 3 1 u6 e.length (e.map zv)):=Ac (λX k=>vG bm k);have c4:∀q,u6.ownBlock=some q->¬W q:=λq ad h=>by
        have bk:=vH bE q ad;rcases ab.own q h with aa|aa
        ·have:=bA _ aa;omega
        ·omega
       have aG:∀q,u6.ownBlock=some q->w<=q/\q≠wr:=λq ad=>by
        refine⟨(vH bE q ad).1,λc=>?_⟩;have:=(vH be q ad).2;omega
       have ec:=az.pI;have bB:Hid (∀X,Touch (λq=>u6.ownBlock=some q) P X->X.cell? (Δ wr 4)=some (.int .i64 a.off)/\X.cell? (Δ wr 6)=some (.int .i64 a.word)):=Ac (λX k=>⟨(a5.touch k (λc=>(aG _ c).2 rfl)).cell 4,(a5.touch k (λc=>(aG _ c).2 rfl)).cell 6⟩);have di:¬W wr:=λh=>by
        rcases ab.own _ h with aa|aa
        ·have:=bA _ aa;omega
        ·omega
       have dt:Hid (∀X Y,Touch (λq=>u6.ownBlock=some q) P X->Touch W X Y->Y.cell? (Δ wr 4)=some (.int .i64 a.off)/\Y.cell? (Δ wr 6)=some (.int .i64 a.word)):=Ac (λX Y k ep=>
        have cy:=(a5.touch k (λc=>(aG _ c).2 rfl)).touch ep di
        ⟨cy.cell 4,cy.cell 6⟩)
       have dr:Hid (∀X,Touch (λq=>u6.ownBlock=some q) P X->GV X pI jb x d p L aI W):=Ac (λX k=>a8.touch k c4 (λc=>Ω ((aG _ c).1)) (λc=>Ω ((aG _ c).1)) (λc=>Ω ((aG _ c).1)));have du:Hid (∀X,Touch (λq=>u6.ownBlock=some q) P X->AQ G W w X):=Ac (λX k=>⟨((mW a6).trans ab).touch.trans k (λq ad=>.inr (aG q ad).1),((mW a6).trans ab).own⟩);have dq:Hid (∀q,u6.ownBlock=some q\/P<=q->¬W q):=Ac (λq bk h=>bk.elim (λaa=>c4 q aa h) (λaa=>Ω (a8.lt q h)));have cl:(e++[a.off]).length=e.length+1:=by simp
       obtain⟨eo,dc,c3⟩:=dx.word;have bx:Hid (∀X a9 bN,Touch (λq=>u6.ownBlock=some q) P X->X.ownsRow w 3 1 (.slice a9 (e.length+1) bN) (e.length+1) (e.map zv++[.int .i64 a.off])->(∀b,a9=some b->¬W b.block)->Calls prog 141 #[AB jb,.int .i64 b8,.int .i64 a.word,.int .u64 (aL.toNat:Int),.slice a9 (e.length+1) bN] X (Uf (EP aI b8 a.word aL (e++[a.off])) pI jb x d p L aI W X)):=Ac (λX a9 bN k ea d8=>by
        rw[<-cl];refine Ug (dr X k) b8 a.word eo dc c3 aL a9 bN (e++[a.off]) ⟨?_,λ_ b bj=>d8 b bj⟩ (λo J=>?_) O (Ω b3.out)
        ·rw[CJ,cl];exact(Dk ea).2
        ·rcases AP.1 J with J|J
         ·exact b5 o J
         ·rw[BB]at J;subst J;exact b4)
       have dj:w.heap.size<=P:=AZ dh ab.touch.size;clear dc c3 cl a8 ab a5 bm ec cz ev ew ex ey f0 f1 f2 f3;go_wp2_with fail;go_region_held_law(λw'=>w'.cell? (Δ wr 4)=some (.int .i64 a.off)/\w'.cell? (Δ wr 6)=some (.int .i64 a.word))
        (first|exact⟨d4,d6⟩|exact bB _  mP|exact bB _ (mD (mX P))|exact bB _ (mD ((mX P).alloc (Ae _) _))|exact dt _ _ bs b0.touch|exact bB _ bs)
        (first
        |(refine PH rfl (.tmp 88) (.tmp 91) 117 rfl Tryz.Zj P w u6 e.length (e.map zv) [.int .i64 a.off] (by simp[Act.eval]) (er _  mZ) rfl rfl rfl rfl P 1 (by simp[Act.eval]) rfl rfl U (by intro a0 bt;simp at bt;subst bt;rfl) O U dj ?_;intro cR bO de bm bl cU eg;have bs:Touch (λq=>u6.ownBlock=some q) P de:=⟨bl.os,bl.tape,bl.output,bl.size,λq ad bX=>cU.2 q ad (λc=>bX c.symm)⟩;have dk:∀b,some ((Φ cR):Addr)=some b->¬W b.block:=λb bj=>by injection bj with bj;subst bj;exact dq _ eg)
        |(go_at_call 141;refine(bx.out de (some (Φ cR)) bO bs bm dk).mono ?_;rintro c fj ee;obtain⟨ed,dn,cw,b0⟩:=ee;subst ed))
       all_goals(
        have dv:=Ac ((du _ bs).trans b0);have ds:=Ac cw;clear bs b0 cw bm bl cU;go_wp2;go_ret;refine⟨by rw[ac.out];rfl,_,dn,?_,ds,dv⟩;rw[ac.out]))
end
def Aou.A0q{w c l:World}{F:Nat->Prop}{g:Nat}{way:List Pl}(hF:∀b,F b->b<w)(x:w<=g)(n:g<c)(k:η c l){e:Nat}(t:c<=e)
 (o:∀i(hi:i<way.length),∃a b c' d,Agr c w g i way[i] a b c' d):Aou l (λb=>F b\/b=e) g way:=by
 refine⟨Bc n k.size,λh=>h.elim (λh=>Ω (hF _ h)) (λh=>O),λi hi=>?_⟩;obtain⟨a,b,c',d,m⟩:=o i hi;refine⟨a,b,c',d,λj u r=>?_,?_⟩
 ·rw[k.cell (p:=Δ g (i*7+j)) n,Nat.mul_comm];exact m.cells j u r
 ·have s:jf c (λb=>F b\/b=e) a b c' d way[i].nd:=jf.Azm m.nd (λb f v q=>q.elim (λh=>Ω (hF _ h)) (λh=>O));exact s.moved (mW k)
def GV.done2{w e w':World}{pI jb x d p L:Nat}{j:Jm}{F G c:Nat->Prop}(h:GV w' pI jb x d p L j c)(m:AQ G c e w')(f:η w e)(i:∀a,G a->F a\/w<=a):∃b,pz w' x d p L j.s b/\AQ F b w w'/\∀a,b a->c a:=by
 obtain⟨b,v,n,k⟩:=h;have o:=f.size;refine⟨b,n.ix,⟨(mD f).trans m.touch i,λa l=>?_⟩,λa f=>(k a).2 (.inl f)⟩;rcases m.own a ((k a).2 (.inl l))with g|g
 ·exact i a g
 ·exact .inr O
section
variable{w:World}{x d p L:Nat}{s:St}{F:Nat->Prop}{lf:Int}
def Aex(h:KH (.up (MU lf)) w x d p L s F)(key:nG)(a2:¬16<key.size){e:List Pl}{nM:List nC}{a:Pl}(t:FC s key=some (e,nM))(K:Dw e nM=some a)(ae:a.nd.val≠0)(a9:a.nd.kids.length=0):
 Calls prog 94 #[AB x,key] w (SQ (Iq ⟨.up lf,s⟩ key) x d p L F w):=by
 have bV:=Ac h;have T:=Ac (Jc h key O);have ab:=Uh key;rw[lg a2]at T;obtain⟨l0,b7,M,aR⟩:=h.L0;have cr:16<=L:=Ψ M.fits M.CE;have a0:=Ac (Me h key O);obtain⟨A,bd⟩:=V9 M O aR t;have bh:=SN t;rw[ab]at bd bh;replace bd:nM.length<=32:=O;replace bh:e.length<=33:=O;have bc:∀an∈e,an.nd.pre.length<=1000:=λan b3=>Ω (((BD _).1 (A an b3).right).1)
 obtain⟨bE,bM,b6⟩:=l9 A bc t;have cz:=h.box.lt;have bQ:=Ac h.sys.tabs.lt;have B:=Ac h.sys.lt;have ad:a∈e:=by
  have j:=K;unfold Dw at j;split at j
  ·cases j
  ·rename_i l b2;split at j
   ·injection j with j;subst j;exact List.mem_of_getLast? b2
   ·cases j
 have W:0<e.length:=List.length_pos_of_mem ad;have bL:=Ac (A a ad);have bW:=Ac K;have t1:((a.nd.val.toNat:Int)==0)=false:=by
  rw[beq_eq_false_iff_ne];intro c;exact ae (Eb.1 (by simp;omega))
 have t2:((a.nd.kids.length:Int)==0)=true:=by rw[beq_iff_eq];omega
 obtain⟨o,Z⟩:∃o,Oj ⟨⟨.up lf,s⟩,[]⟩ e=o:=⟨_,rfl⟩;obtain⟨s1,i⟩:=o;have bN:=Ac Z;obtain⟨⟨bm,v⟩,ah⟩:∃o,Oi s1 a 0=o:=⟨_,rfl⟩;have bR:=Ac ah;have b:Hid (Iq ⟨.up lf,s⟩ key=if i=6 then(if v=0 then(bm,a.nd.val,0)else(bm,0,v))else if i=0 then(s1,a.nd.val,0)else(s1,0,i)):=Ac (by
  unfold Iq;rw[ab,lg a2];simp only[t,K,lg ae,kX a9,Z,ah])
 clear ah;clear h ab M aR t K A bc ad Z a9 ae;go_in;go_wp2_with(first|(refine T.out.ro ?_;clear T)|(refine a0.mono ?_;rintro c bo⟨a6,ba⟩;rw[b6.out]at ba;obtain⟨cI,cq,cu,rfl,aW,be,cw⟩:=ba;obtain⟨aM,bO,bB⟩:=l9 aW be a6;clear aW be a6 a0));refine(IM aM O bM bO.1 O).mono ?_;rintro c N⟨E,bb⟩;rw[bW.out]at bb;obtain⟨ct,m,c',cv,rfl,b5⟩:=bb;obtain⟨au,bj,av,bk,aw,bl,c,b8,b9,ca⟩:=b5;simp only[Value.agg.injEq]at c;simp at c;obtain⟨rfl,rfl,rfl,rfl⟩:=c;obtain⟨g,bX,rfl,bY,a7,a8,a5⟩:=aM.at (λc=>by rw[c]at W;exact absurd W (Nat.lt_irrefl 0));have aG:=Ac (τ bB.out E);obtain⟨r,D,G,P⟩:=E5 N 213 [.slice au a.nd.pre.length bj,a.nd.val,.slice av a.nd.labels.length bk,.slice aw a.nd.kids.length bl,a.off,a.label,a.word];have aI:=Ac (τ aG.out G);have bg:N.heap.size+1=r:=by rw[D];simp
 obtain⟨a1,U,H,-⟩:=E5 r 255 [AB x,.slice none 0 0];have aL:=Ac (τ aI.out H);have cy:=aI.size;have a3:=uM (q:=⟨.up lf,s⟩) (bV.below aL) U (λm f=>Ω (B m f)) O (Ω bQ.out);have az:η bo a1:=τ E (τ G H);have ao:bo.heap.size<=r:=AZ E.size G.size;have a4:Aou a1 (λm=>F m\/m=r) g e:=Aou.A0q B a7 a8 az ao a5;have am:=Ac (Aj9 a3 e g bX W O bE b7 a4 Θ);rw[bN.out]at am;have Q:=P.ξ H;obtain⟨bp,bq,br,bs,bt,bw,bx⟩:=Fh P;obtain⟨cc,cd,ce,cf,cg,ch,ci⟩:=Fh Q;obtain⟨ap,bS,cb,V⟩:=lL Q D U bg;rw[D]at bp bq br bs bt bw bx;clear b8 b9 ca E G P Q D U H a3 az ao a4 a5 bY a7 a8 bg;go_wp2_with fail;rw[<-bS.out,<-cb.out];rw[show N.heap.size+1=r from V.out];refine am.mono ?_;rintro c cJ⟨rfl,cA,cs,aa,aq,C⟩;simp only at aa⊢;have cx:=aG.size;obtain⟨S,al,ar,b1⟩:=aq.done2 C aL (λm f=>f.imp id (λc=>O));have b4:¬S N:=λb0=>by
  have:=V.out;have:=ap.lt;rcases C.own _ (b1 _ b0)with(X|X)|X
  ·have:=B _ X;omega
  ·omega
  ·omega
 rw[aa]at al;have k:=Ac (And.intro al ar);have R:=ap.touch C.touch (λJ=>by
  have:=V.out;rcases J with J|J
  ·have:=B _ J;omega
  ·omega)
 have bA:=Ac R;obtain⟨cj,ck,cl,cm,cn,co,cp⟩:=Fh R;clear al ar aq C am R cc cd ce cf cg ch ci bp bq br bs bt bw bx aa;by_cases Y:i=6
 ·subst Y;rw[kX rfl]at b;have n:=Ud (q:=s1) k.out.1 a (bL.out) au av aw a.nd.pre.length bj a.nd.labels.length bk a.nd.kids.length bl 0;rw[bR.out]at n;have n:=Ac n;go_wp2_with fail;refine n.out.mono ?_;rintro c cK⟨rfl,aE,bi,ac⟩;have y:=Ac (And.intro bi (k.out.2.trans ac));have aD:=bA.touch ac.touch b4;obtain⟨cB,cC,cD,cE,cF,cG,cH⟩:=Fh aD;clear bi ac aD n cj ck cl cm cn co cp;by_cases u:v=0
  ·subst u;rw[kX rfl]at b;go_wp2;go_ret2;refine⟨by rw[b.out];rfl,aE,?_,y.2⟩;rw[b.out];exact y.1
  ·rw[lg u]at b;have t8:(v==0)=false:=ζ u;have t9:(v !=0)=true:=by rw[bne_iff_ne];exact u
   clear u;go_wp2;go_ret2;refine⟨by rw[b.out];rfl,aE,?_,y.2⟩;rw[b.out];exact y.1
 ·have t6:(i==6)=false:=ζ Y;rw[lg Y]at b;by_cases I:i=0
  ·subst I;rw[kX rfl]at b;go_wp2;go_ret2;refine⟨by rw[b.out];rfl,S,?_,k.out.2⟩;rw[b.out];exact k.out.1
  ·have t7:(i==0)=false:=ζ I;have t8:(i !=0)=true:=by simp[I]
   rw[lg I]at b;go_wp2;go_ret2;refine⟨by rw[b.out];rfl,S,?_,k.out.2⟩;rw[b.out];exact k.out.1
def Aal(h:KH (.up (MU lf)) w x d p L s F)(key:nG)(m:key.size<=1000):
 Calls prog 94 #[AB x,key] w (SQ (Iq ⟨.up lf,s⟩ key) x d p L F w):=by
 by_cases l:∃c b a,FC s key=some (c,b)/\Dw c b=some a/\a.nd.val≠0/\a.nd.kids.length=0/\¬16<key.size
 ·obtain⟨c,b,a,e,g,i,j,k⟩:=l;exact Aex h key k e g i j
 ·exact Aed h key m (λc b a e g i j k=>l ⟨c,b,a,e,g,i,k,j⟩)
end
def Found(L:Nat)(s:St)(G:ni->List Kv->(List nC->List Lk)->Prop)(ws':Nat->ni):Prop:=
 (∀j,j<8->ws' j=s.ws j)/\∃Y b a,G (ws' 8) b a/\EZ Y L (NR ws' s.sh) b a
section
variable{Y Z:Nat->Prop}{L:Nat}{s s1 t:St}{nJ its:List Kv}{ch c':List nC->List Lk}{ws':Nat->ni}{G z:ni->List Kv->(List nC->List Lk)->Prop}
def Found.from(h:Found L s1 G ws')(i:s1.sh=s.sh)(g:∀j,j<8->s1.ws j=s.ws j):Found L s G ws':=by
 obtain⟨c,Y,k,b,d,e⟩:=h;exact⟨λj a=>(c j a).trans (g j a),Y,k,b,d,i▸e⟩
def EZ.into(_:EZ Y L s nJ ch)(ix:JQ Z L t its)(m:Jj (λo=>(∃kv∈nJ,o∈Dy (ch kv.1))\/Y o) s t)(i:∀o,((∃kv∈nJ,o∈Dy (ch kv.1))\/Y o)->Z o)
 (d:∀kv∈its,D8 s kv.2 (c' kv.1)/\kv.2≠0/\∀o∈Dy (c' kv.1),(∃kv∈nJ,o∈Dy (ch kv.1))\/Y o)(l:∀k,(∀kv∈its,kv.1≠k)->c' k=[])(j:∀kv∈its,∀kv'∈its,kv.1≠kv'.1->∀o∈Dy (c' kv.1),o∉Dy (c' kv'.1)):
 EZ (λo=>Z o/\¬∃kv∈its,o∈Dy (c' kv.1)) L t its c':=by
 refine⟨ix.congr λo=>⟨λb=>?_,λb=>?_⟩,λkv a=>⟨(d kv a).1.keep m.keep (λo c=>(d kv a).2.2 o c),(d kv a).2.1⟩,l,j,λkv a o c g=>g.2 ⟨kv,a,c⟩⟩
 ·by_cases e:∃kv∈its,o∈Dy (c' kv.1)
  ·exact .inl e
  ·exact .inr ⟨b,e⟩
 ·rcases b with⟨kv,a,c⟩|⟨b,_⟩
  ·exact i o ((d kv a).2.2 o c)
  ·exact b
def kG(h:EZ Y L s nJ ch)(g:BZ L s1)(sh:s1.sh=s.sh)(k:DV s s1 (λ_=>True))(low:∀j,j<16->s1.ws j=s.ws j)(c:jV s1 ws')(i:G (s.ws 8) nJ ch):Found L s G ws':=by
 obtain⟨e,_,d⟩:=Z8 g c;rw[sh]at e d;have a:∀j,j<16->ws' j=s.ws j:=λj b=>(c.low g j O).trans (low j b)
 exact⟨λj b=>a j O,_,nJ,ch,by rw[a 8 U];exact i,h.again e (vz _ _) (k.trans d) (a 9 U) (λ_=>Iff.rfl)⟩
def Tf(h:EZ Y L s nJ ch)(a:G (s.ws 8) nJ ch):Found L s G s.ws:=kG h h.ix.ok rfl (DV.refl _ _) (λ_ _=>rfl) (Ih s) a
def ZC(h:EZ Y L s nJ ch)(m:Fnd (λo=>(∃a∈nJ,o∈Dy (ch a.1))\/Y o) L s its ws')
 (i:∀a∈its,D8 s a.2 (c' a.1)/\a.2≠0/\∀o∈Dy (c' a.1),(∃a∈nJ,o∈Dy (ch a.1))\/Y o)(n:∀k,(∀a∈its,a.1≠k)->c' k=[])(l:∀a∈its,∀c∈its,a.1≠c.1->∀o∈Dy (c' a.1),o∉Dy (c' c.1))(e:G (s.ws 8) its c'):Found L s G ws':=by
 obtain⟨Z,g,p,b⟩:=m;have d:ws' 8=s.ws 8:=b.low 8 U U;exact⟨λj q=>b.low j O O,_,its,c',by rw[d];exact e,h.into p b g i n l⟩
def kH(h:EZ Y L s nJ ch)(d:Fnd (λo=>(∃a∈nJ,o∈Dy (ch a.1))\/Y o) L s nJ ws')(c:G (s.ws 8) nJ ch):Found L s G ws':=
 ZC h d (λa b=>⟨(h.chain a b).1,(h.chain a b).2,λ_ e=>.inl ⟨a,b,e⟩⟩) h.none h.VH c
def Aey(h:EZ Y L s nJ ch)(u:ni)(n:G u nJ ch):Found L s G (DD s.ws 8 u):=by
 have c:∀j,j≠8->DD s.ws 8 u j=s.ws j:=λj b=>by unfold DD;rw[lg b]
 have k:DD s.ws 8 u 8=u:=by unfold DD;rw[kX rfl]
 obtain⟨s1,a⟩:∃s1,s1=({s with ws:=DD s.ws 8 u}:St):=⟨_,rfl⟩;have q:BZ L s1:=by rw[a];exact h.ix.ok.words (λt r=>c _ O)
 have p:DV s s1 (λ_=>True):=λo d _ e=>⟨by rw[a];exact e,λj b=>by
  have:=h.ix.ok.DU (e.bounds h.ix.ok).1 b;rw[a];exact c j O⟩
 obtain⟨i,_,g⟩:=Z8 q (Ih s1);have l:s1.sh=s.sh:=by rw[a]
 have m:s1.ws=DD s.ws 8 u:=by rw[a]
 rw[l,m]at i g;exact⟨λj b=>c j O,_,nJ,ch,by rw[k];exact n,h.again i (vz _ _) (p.trans g) (c 9 U) (λ_=>Iff.rfl)⟩
end
def getD(q:Ms)(key:List nC):ni×Int:=match q.pw with
 | .up _=>Ic q.s key
 | .down _=>(0,12)
def Wj(q:Ms)(key:List nC)(v:ni):Ms×Int:=match q.pw with
 | .up _=>OG q key v
 | .down _=>(q,12)
def Aam(q:Ms)(key:List nC):Ms×ni×Int:=match q.pw with
 | .up _=>Iq q key
 | .down _=>(q,0,12)
def writeM(q:Ms)(nK:ni)(y:Wr):Ms×ni×ni×Int:=
 match getD q y.key with
 |(v,a)=>if a≠0/\a≠7 then(q,0,0,a)else if y.gone=true/\v=0 then(q,0,0,0)else
  match JI q ⟨nK,v,y.gone,y.text⟩with
  |(e,b,c)=>if c≠0 then(e,0,0,c)else
   match Wj e y.key b with
   |(g,d)=>if d≠0 then((DT g (Bz b)).1,0,0,d)else(g,v,b,0)
section
variable{Y Z:Nat->Prop}{L:Nat}{s s1 t:St}{nJ its:List Kv}{ch c':List nC->List Lk}{ws':Nat->ni}{G:ni->List Kv->(List nC->List Lk)->Prop}
def vJ{Good:(Nat->ni)->Prop}{q:Ms}(h:Dn Good q):∃P,q.pw=.down P:=by
 obtain⟨P,a,_⟩:=h;exact⟨P,a⟩
def As3{Good:(Nat->ni)->Prop}{q:Ms}(h:Dn Good q)(key:List nC)(v:ni):Wj q key v=(q,12):=by
 obtain⟨P,a⟩:=vJ h;unfold Wj;rw[a]
def EZ.added(h:EZ Y L s nJ ch)(r:Rc)(m:Et r=true):NY s r=(s,0,6)\/∃s1 o,NY s r=(s1,Az o,0)/\(∀d t,Ei s 1=some (d,t)->(Np {t with ws:=CQ t.ws (d/8) (EE r)} d).2=0)/\EZ (λp=>Y p\/p=o) L s1 nJ ch/\
 o<=65536/\0<o/\AX s1 o 1/\wordsAt s1.ws (o/8) 8=EE r/\DV s s1 (λ_=>True)/\s1.sh=s.sh/\(∀j,j<16->s1.ws j=s.ws j)/\¬((∃kv∈nJ,o∈Dy (ch kv.1))\/Y o):=by
 rcases Aon h.ix r m with b|⟨s1,o,b,n,w,g,l,i,t1,v,ix,k,u,q⟩
 ·exact .inl b
 ·refine .inr ⟨s1,o,b,n,⟨ix.congr λp=>or_assoc,λkv a=>⟨(h.chain kv a).1.keep k (λ_ _=>trivial),(h.chain kv a).2⟩,h.none,h.VH,λkv a p e c=>?_⟩,l,i,t1,v,k,u,q,g⟩;rcases c with c|rfl
  ·exact h.loose kv a p e c
  ·exact g (.inl ⟨kv,a,e⟩)
def As4(h:EZ Y L s nJ ch)(r:Rc)(l:Et r=true)(lf:Int)(C:G (s.ws 8) nJ ch):
 (∃I,JI ⟨.up lf,s⟩ r=(⟨.up I,(NY s r).1⟩,(NY s r).2))\/Dn (Found L s G) (JI ⟨.up lf,s⟩ r).1:=by
 have N:=h.added r l;unfold JI;rw[lg (by rw[l];exact λb=>nomatch b)];cases x:Ei s 1 with
 |none=>
  refine .inl ⟨lf,?_⟩;unfold NY;rw[lg (by rw[l];exact λb=>nomatch b),x]
 |some ab=>
  obtain⟨a,s1⟩:=ab;obtain⟨n,F,al,am,v,_,_,W⟩:=Q7 h.ix.ok (.inl rfl) x;have P:=v.bounds n;have S:DV s s1 (λ_=>True):=λo d _ V=>⟨(W o d).2 V,λj _=>by rw[F]⟩
  have A:∀ws',Half s1.ws (CQ s1.ws (a/8) (EE r)) ws'->Found L s G ws':=λws' X=>kG h n al S (λj _=>by rw[F]) (λj D=>by
   rcases X j with b|b
   ·exact b
   ·rw[b];unfold CQ;rw[lg];intro u;refine D a 1 v ⟨u.1,?_⟩;have:=u.2;rw[Jp]at this;have:Bq 1=1:=rfl;omega) C
  obtain⟨c,m⟩:∃c,c=({s1 with ws:=CQ s1.ws (a/8) (EE r)}:St):=⟨_,rfl⟩;have E:(Np c a).2=0:=by
   obtain⟨av,J,_⟩:=uU (n.words (ws':=CQ s1.ws (a/8) (EE r)) (λau aq=>by
    unfold CQ;rw[lg];intro u;have:=n.sh.Qo;have:=P.1;omega)) (show EK {s1 with ws:=CQ s1.ws (a/8) (EE r)} a 1 from v)
   rw[m,J]
  have g:NY s r=((Np c a).1,Az a,0):=by
   unfold NY;rw[lg (by rw[l];exact λb=>nomatch b),x];simp only;rw[<-m,kX E]
  rcases N with t|⟨ae,o,t,ar,Z,ap,ao,_,_,_,ah,y,_⟩
  ·rw[t]at g;injection g with _ b
   injection b with _ b
   cases b
  ·have K:ae=(Np c a).1:=by
    rw[t]at g;injection g
   have R:Found L s G (Np c a).1.ws:=by
    rw[<-K];exact(Tf Z (by rw[y 8 U];exact C)).from ah (λj D=>y j O)
   have Q:Found L s G c.ws:=by
    rw[m];exact A _ (λj=>.inr rfl)
   have p:=Aep (s:=s1) (lf:=lf) (Good:=Found L s G) (Nu (a/8) 8) (CQ s1.ws (a/8) (EE r)) A;rw[<-m]at p;simp only;obtain⟨⟨ac,an⟩,T⟩:∃k,k=KG ⟨.up lf,s1⟩ (Nu (a/8) 8) (CQ s1.ws (a/8) (EE r)):=⟨_,rfl⟩;rw[<-T]at p⊢;rcases p with⟨H,q⟩|i
   ·injection q with q e
    subst q e;simp only[if_true];have B:=Aag (s:=c) (lf:=H) (Good:=Found L s G) (a:Int) Q R;obtain⟨⟨ad,b⟩,w⟩:∃k,k=J6 ⟨.up H,c⟩ a:=⟨_,rfl⟩;rw[<-w]at B⊢;rcases B with⟨aa,e⟩|i
    ·rw[E]at e;injection e with e M
     subst e M;refine .inl ⟨aa,?_⟩;rw[g];rfl
    ·right;simp only;split
     ·exact i
     ·exact OQ i _
   ·right;simp only;split
    ·have:=jY i (a:Int);obtain⟨⟨ad,b⟩,w⟩:∃k,k=J6 ac a:=⟨_,rfl⟩;rw[<-w]at this⊢;simp only;split
     ·exact this
     ·exact OQ this _
    ·exact OQ i _
end
section
variable{Y:Nat->Prop}{L:Nat}{s s1:St}{nJ pX:List Kv}{ch:List nC->List Lk}{G:ni->List Kv->(List nC->List Lk)->Prop}{k:List nC}{lk:Lk}{o:Nat}
def As5(h:EZ Y L s nJ ch):∀p∈Dy (ch k),∃a∈nJ,a.1=k/\p∈Dy (ch a.1):=λp c=>by
 by_cases d:∀a∈nJ,a.1≠k
 ·rw[h.none k d]at c;cases c
 ·obtain⟨a,e⟩:=Classical.not_forall.1 d;obtain⟨g,b⟩:=Classical.not_imp.1 e;have b:=Classical.not_not.1 b;exact⟨a,g,b,by rw[b];exact c⟩
def Akb(h:EZ Y L s1 nJ ch)(G:Y o)(K:lk.off=o)(V:Et lk.rc=true)(ac:o<=65536)(ab:0<o)(Z:D8 s1 lk.rc.next (ch k))(W:∀x∈ch k,x.rc.nK.toNat<lk.rc.nK.toNat)
 (X:AX s1 o 1)(aa:wordsAt s1.ws (o/8) 8=EE lk.rc)(B:Tc nJ pX k (Az o)):
 (∀a∈pX,D8 s1 a.2 (FV ch k lk a.1)/\a.2≠0/\∀p∈Dy (FV ch k lk a.1),(∃a∈nJ,p∈Dy (ch a.1))\/Y p)/\(∀l,(∀a∈pX,a.1≠l)->FV ch k lk l=[])/\
  (∀a∈pX,∀P∈pX,a.1≠P.1->∀p∈Dy (FV ch k lk a.1),p∉Dy (FV ch k lk P.1)):=by
 have q:∀a∈pX,(a=(k,Az o))\/(a∈nJ/\a.1≠k):=λa g=>(B a).1 g
 have U:(k,Az o)∈pX:=(B _).2 (.inl rfl);have s:∀a:Kv,a.1≠k->FV ch k lk a.1=ch a.1:=λa r=>by unfold FV;rw[lg r]
 have C:FV ch k lk k=lk::ch k:=by unfold FV;rw[kX rfl]
 have A:Dy (lk::ch k)=o::Dy (ch k):=by unfold Dy;rw[Ci,K,BC]
 have M:=As5 (k:=k) h;refine⟨λa g=>?_,λl J=>?_,λm S b f H p i e=>?_⟩
 ·rcases q a g with rfl|⟨y,R⟩
  ·rw[C,A];refine⟨?_,λd=>?_,λp j=>?_⟩
   ·have:=D8.cons o lk.rc (ch k) X V aa Z W;rw[<-K]at this;exact this
   ·have:=congrArg P9 d;rw[DN O]at this;simp at this;omega
   ·rcases Cb.1 j with rfl|j
    ·exact .inr G
    ·obtain⟨a,u,_,v⟩:=M p j;exact .inl ⟨a,u,v⟩
  ·rw[s a R];exact⟨(h.chain a y).1,(h.chain a y).2,λp j=>.inl ⟨a,y,j⟩⟩
 ·have r:l≠k:=λd=>J _ U d.symm
  unfold FV;rw[lg r];exact h.none l (λa g d=>J a ((B a).2 (.inr ⟨g,by rw[d];exact r⟩)) d)
 ·have N:∀c:Kv,c∈nJ->c.1≠k->∀p,p∈Dy (ch c.1)->p∈o::Dy (ch k)->False:=λc I T p F w=>by
   rcases Cb.1 w with rfl|w
   ·exact h.loose c I _ F G
   ·obtain⟨a,u,Q,v⟩:=M p w;exact h.VH c I a u (by rw[Q];exact T) p F v
  rcases q m S with rfl|⟨D,E⟩
  ·rcases q b f with rfl|⟨t,n⟩
   ·exact H rfl
   ·rw[C,A]at i;rw[s b n]at e;exact N b t n p e i
  ·rw[s m E]at i;rcases q b f with rfl|⟨t,n⟩
   ·rw[C,A]at e;exact N m D E p i e
   ·rw[s b n]at e;exact h.VH m D b t H p i e
def Akc(h:EZ Y L s nJ ch)(nK:ni)(y:Wr)(hy:D5 y=true)(aG:nK.toNat≠0)(aI:∀x∈ch (CO y.key),x.rc.nK.toNat<nK.toNat)(lf:Int)(C:G (s.ws 8) nJ ch)
 (ao:∀(o:Nat)(v:ni)(its:List Kv),Tc nJ its (CO y.key) (Az o)->G (s.ws 8) its (FV ch (CO y.key) ⟨o,⟨nK,v,y.gone,y.text⟩⟩)):
 (∃Z,writeM ⟨.up lf,s⟩ nK y=(⟨.up Z,(H7 s nK y).1⟩,(H7 s nK y).2))\/Dn (Found L s G) (writeM ⟨.up lf,s⟩ nK y).1:=by
 have l:y.key.data.toList.length<=16/\y.text.size<=40/\(y.gone=true->y.text.size=0):=by
  unfold D5 at hy;simp only[Bool.and_eq_true,decide_eq_true_eq,Bool.or_eq_true,Bool.not_eq_true']at hy;exact⟨hy.1.1,hy.1.2,λt=>hy.2.resolve_left (by rw[t];simp)⟩
 have ar:∃v a,Ic s y.key=(v,a)/\D8 s v (ch (CO y.key)):=by
  rcases Z9 h.ix y.key l.1 with⟨v,a,au,a7⟩|⟨a,av⟩
  ·exact⟨v,0,a,(h.chain _ au).1⟩
  ·exact⟨0,7,a,by rw[h.none _ av];exact .nil⟩
 obtain⟨v,a,t,aq⟩:=ar;unfold writeM H7;rw[show getD ⟨.up lf,s⟩ y.key=(v,a)from t,t];simp only;by_cases q:a≠0/\a≠7
 ·rw[kX q,kX q];exact .inl ⟨lf,rfl⟩
 rw[lg q,lg q];by_cases r:y.gone=true/\v=0
 ·rw[kX r,kX r];exact .inl ⟨lf,rfl⟩
 rw[lg r,lg r];have F:Et ⟨nK,v,y.gone,y.text⟩=true:=(MJ _).2 ⟨aG,l.2.1,l.2.2⟩;have an:=As4 h ⟨nK,v,y.gone,y.text⟩ F lf C;rcases an with⟨m,ad⟩|b
 ·rw[ad];rcases h.added ⟨nK,v,y.gone,y.text⟩ F with B|⟨s1,o,B,_,k,az,aw,aM,aW,P,T,u,N⟩
  ·rw[B];simp only;rw[kX U,kX U];exact .inl ⟨m,rfl⟩
  ·rw[B];simp only[ne_eq,not_true_eq_false,if_false];have M:Az o≠0:=λa=>by
    have:=congrArg P9 a;rw[DN O]at this;simp at this;omega
   have I:s1.ws 8=s.ws 8:=u 8 U;have J:∀ws',Gd (λp=>(∃d∈nJ,p∈Dy (ch d.1))\/(Y p\/p=o)) L s1 nJ (λits=>Tc nJ its (CO y.key) (Az o)) ws'->Found L s G ws':=λws' aR=>by
    refine Found.from (s1:=s1) ?_ T (λj e=>u j O);obtain⟨its,rfl|c,K⟩:=aR
    ·exact kH k K (by rw[I];exact C)
    ·obtain⟨f1,f2,f3⟩:=Akb (lk:=⟨o,⟨nK,v,y.gone,y.text⟩⟩) k (.inr rfl) rfl F az aw (aq.keep P (λ_ _=>trivial)) aI aM aW c;exact ZC k K f1 f2 f3 (by rw[I];exact ao o v its c)
   have ap:=qM k.ix y.key l.1 (Az o) M m;have aE:Wj ⟨.up m,s1⟩ y.key (Az o)=OG ⟨.up m,s1⟩ y.key (Az o):=rfl;rw[aE];rcases ap with⟨R,ae⟩|b
   ·rw[ae];obtain⟨i,E⟩:=jQ k.ix y.key l.1 (Az o) M;generalize RZ s1 y.key (Az o)=a4 at i E⊢;obtain⟨S,aa⟩:=a4;simp only at i E⊢;rcases E with⟨rfl,n,_⟩|⟨rfl,its,n,c⟩
    ·simp only[show¬(6:Int)=0 by decide,not_false_eq_true,if_true];have W:Found L s G S.ws:=J _ ⟨nJ,.inl rfl,found n i n.ok rfl (DV.refl _ _) (λ_ _=>rfl) (Ih _)⟩;have aD:Bz (Az o)=o:=Ky O;obtain⟨H,ab,a0,a1,a5,X⟩:=uZ n (o:=o) (.inr (.inr rfl));have V:Found L s G (GG S (Bz (Az o))).1.ws:=by
      rw[aD,ab];have a2:DV s H (λp=>(∃d∈nJ,p∈Dy (ch d.1))\/Y p):=λp A c aL=>by
       obtain⟨u1,u2⟩:=P p A trivial aL;obtain⟨u3,u4⟩:=i.keep p A (c.imp id .inl) u1;obtain⟨u5,u6⟩:=a1 p A (λa=>N (a▸c)) u3;exact⟨u5,λj e=>((u6 j e).trans (u4 j e)).trans (u2 j e)⟩
      have am:EZ Y L H nJ ch:=⟨a0.congr λp=>⟨λ⟨ah,al⟩=>ah.imp id (λg=>g.resolve_right al),λg=>⟨g.imp id .inl,λa=>N (a▸g)⟩⟩,
       λd D=>⟨(h.chain d D).1.keep a2 (λp c=>.inl ⟨d,D,c⟩),(h.chain d D).2⟩,h.none,h.VH,h.loose⟩
      have Q:∀j,j<9->H.ws j=s.ws j:=λj e=>(X j O).trans ((i.low j O O).trans (u j O))
      exact(Tf am (by rw[Q 8 U];exact C)).from (a5.trans (i.sh.trans T)) (λj e=>Q j O)
     rcases Y5 (lf:=R) (Bz (Az o)) W V with⟨a3,ac⟩|b
     ·rw[ac];exact .inl ⟨a3,rfl⟩
     ·exact .inr b
    ·simp only[not_true_eq_false,if_false];exact .inl ⟨R,rfl⟩
   ·right;have b:=b.mono J;generalize OG ⟨.up m,s1⟩ y.key (Az o)=w at b⊢;obtain⟨ba,aa⟩:=w;simp only at b⊢;split
    ·exact OQ b _
    ·exact b
 ·right;generalize JI ⟨.up lf,s⟩ ⟨nK,v,y.gone,y.text⟩=w at b⊢;obtain⟨a9,a8,a6⟩:=w;simp only at b⊢;split
  ·exact b
  ·rw[As3 b];simp only;rw[kX U];exact OQ b _
def Aow{Good:(Nat->ni)->Prop}{q:Ms}(h:Dn Good q)(nK:ni)(y:Wr):writeM q nK y=(q,0,0,12):=by
 obtain⟨P,a⟩:=vJ h;unfold writeM getD;rw[a];simp only;rw[kX U]
end
def MV(q:Ms)(key:List nC)(v:ni):Ms×Int:=if v=0 then((Aam q key).1,(Aam q key).2.2)else Wj q key v
def Kz(q:Ms)(p:Past):Ms×Int:=
 if p.2.2=0 then(q,0)else if(MV q p.1 p.2.1).2≠0 then MV q p.1 p.2.1 else((DT (MV q p.1 p.2.1).1 (Bz p.2.2)).1,0)
def QC(q:Ms):List Past->Ms
 |[]=>q
 |p::l=>if(Kz q p).2≠0 then(Kz q p).1 else QC (Kz q p).1 l
def Aox{Good:(Nat->ni)->Prop}{q:Ms}(h:Dn Good q)(key:List nC)(v:ni):MV q key v=(q,12):=by
 obtain⟨P,a⟩:=vJ h;unfold MV Aam Wj;rw[a];simp only;split<;>rfl
def kJ{Good:(Nat->ni)->Prop}:∀(l:List Past){q:Ms},Dn Good q->QC q l=q
 |[],_,_=>rfl
 |p::l,q,h=>by
  have c:=Aox h p.1 p.2.1;have b:Kz q p=(q,0)\/Kz q p=(q,12):=by
   unfold Kz;rw[c];split
   ·exact .inl rfl
   ·exact .inr rfl
  rw[QC];rcases b with a|a
  ·rw[a,lg Θ];exact kJ l h
  ·rw[a,kX (show(12:Int)≠0 by decide)]
section
variable{L:Nat}{s:St}{nJ pX:List Kv}{ch:List nC->List Lk}{G:ni->List Kv->(List nC->List Lk)->Prop}
def Aoy{s0:St}(l:CX L s0 nJ ch){key:nG}(T:key.size<=16){lk:Lk}{o:Nat}(V:lk.off=o)(aM:0<o)(aR:o<=65536)(g:Tc nJ pX (CO key) (Az o))(h:CX L s pX (FV ch (CO key) lk))
 (A:(lk.rc.next=0/\∀a∈nJ,a.1≠CO key)\/(lk.rc.next≠0/\(CO key,lk.rc.next)∈nJ))(lf:Int)(P:G (s.ws 8) nJ ch)(F:G (s.ws 8) pX (FV ch (CO key) lk)):
 (∃n,Kz ⟨.up lf,s⟩ (key,lk.rc.next,Az o)=(⟨.up n,(GG (QB s key lk.rc.next).1 o).1⟩,0))\/Dn (Found L s G) (Kz ⟨.up lf,s⟩ (key,lk.rc.next,Az o)).1:=by
 have B:key.data.toList.length<=16:=T;have au:=ZA l T V g h A;obtain⟨k,I⟩:=ε (CO key);rw[<-I]at g h A F;have r:=h.y;have S:(k,Az o)∈pX:=(g _).2 (.inl rfl);have X:FV ch k lk k=lk::ch k:=by unfold FV;rw[kX rfl]
 have W:∀C,C≠k->FV ch k lk C=ch C:=λC K=>by unfold FV;rw[lg K]
 have ao:Dy (lk::ch k)=o::Dy (ch k):=by unfold Dy;rw[Ci,V,BC]
 have Q:=(h.chain _ S).1;simp only[X]at Q;obtain⟨aW,aL,_,_,_,_,aq,_,_,_⟩:=kF h.ix.ok Q;have av:∀a∈nJ,∀p∈Dy (ch a.1),∃a∈pX,p∈Dy (FV ch k lk a.1):=λa c p e=>by
  by_cases b:a.1=k
  ·rw[b]at e;exact⟨_,S,by rw[X,ao];exact Bi _ e⟩
  ·exact⟨a,(g a).2 (.inr ⟨c,b⟩),by rw[W _ b];exact e⟩
 have Y:∀a∈nJ,D8 s a.2 (ch a.1):=λa q=>by
  by_cases b:a.1=k
  ·have aw:a.2=lk.rc.next:=by
    rcases A with⟨_,d⟩|⟨_,d⟩
    ·exact absurd b (d a q)
    ·exact congrArg Prod.snd (l.key q d b)
   rw[aw,b];exact aq
  ·have:=(h.chain a ((g a).2 (.inr ⟨q,b⟩))).1;rw[W _ b]at this;exact this
 have v:∀{New:List Kv->Prop},(∀{t:St}{Z:Nat->Prop}{its:List Kv},JQ Z L t its->New its->its=nJ)->∀ws',Gd (λp=>(∃a∈pX,p∈Dy (FV ch k lk a.1))\/False) L s pX New ws'->Found L s G ws':=λ{New}ae ws' az=>by
  obtain⟨its,rfl|ap,H⟩:=az
  ·exact kH r H F
  ·have an:=H;obtain⟨Z,_,w,_⟩:=an;have:=ae w ap;subst this;exact ZC r H (λa q=>⟨Y a q,(l.chain a q).2,λp g=>.inl (av a q p g)⟩) l.none l.VH P
 have R:((∃n,MV ⟨.up lf,s⟩ key lk.rc.next=(⟨.up n,(QB s key lk.rc.next).1⟩,(QB s key lk.rc.next).2))\/Dn (Found L s G) (MV ⟨.up lf,s⟩ key lk.rc.next).1)/\Found L s G (QB s key lk.rc.next).1.ws:=by
  unfold MV QB;rcases A with⟨u,d⟩|⟨u,d⟩
  ·have hcut:∀{t:St}{Z:Nat->Prop}{its:List Kv},JQ Z L t its->Vr pX its (CO key)->its=nJ:=λw hcut=>dS w.up l.ix.up (λx=>by
    rw[hcut x,g x,<-I];constructor
    ·rintro⟨rfl|⟨c,_⟩,e⟩
     ·exact absurd rfl e
     ·exact c
    ·exact λc=>⟨.inr ⟨c,d x c⟩,d x c⟩)
   simp only[kX u];refine⟨?_,?_⟩
   ·rcases Aj8 r.ix key B lf with⟨n,b⟩|m
    ·exact .inl ⟨n,by rw[show Aam ⟨.up lf,s⟩ key=Iq ⟨.up lf,s⟩ key from rfl,b]⟩
    ·exact .inr (m.mono (v hcut))
   ·rcases ve r.ix key B with⟨b,_⟩|⟨D,b,aI,E,i,ah⟩
    ·rw[b];exact Tf r F
    ·exact v hcut _ ⟨E,.inr ah,found i D i.ok rfl (DV.refl _ _) (λ_ _=>rfl) (Ih _)⟩
  ·have N:∀{t:St}{Z:Nat->Prop}{its:List Kv},JQ Z L t its->Tc pX its (CO key) lk.rc.next->its=nJ:=λw M=>dS w.up l.ix.up (λx=>by
    rw[M x,g x,<-I];constructor
    ·rintro(rfl|⟨rfl|⟨c,_⟩,e⟩)
     ·exact d
     ·exact absurd rfl e
     ·exact c
    ·intro c;by_cases b:x.1=k
     ·exact .inl (l.key c d b)
     ·exact .inr ⟨.inr ⟨c,b⟩,b⟩)
   simp only[lg u];refine⟨?_,?_⟩
   ·rcases qM r.ix key B lk.rc.next u lf with⟨n,b⟩|m
    ·exact .inl ⟨n,b⟩
    ·exact .inr (m.mono (v N))
   ·obtain⟨D,⟨_,i,_⟩|⟨_,E,i,M⟩⟩:=jQ r.ix key B lk.rc.next u
    ·exact v N _ ⟨pX,.inl rfl,found i D i.ok rfl (DV.refl _ _) (λ_ _=>rfl) (Ih _)⟩
    ·exact v N _ ⟨E,.inr M,found i D i.ok rfl (DV.refl _ _) (λ_ _=>rfl) (Ih _)⟩
 obtain⟨s1,a0,aa,ab,e,J⟩:=au;have K:Az o≠0:=λb=>by
  have:=congrArg P9 b;rw[DN O]at this;simp at this;omega
 have ar:Bz (Az o)=o:=Ky O;unfold Kz;rw[lg K];simp only;rw[aa]at R⊢;obtain⟨⟨aD,ac⟩|m,al⟩:=R
 ·rw[ac];simp only[ne_eq,not_true_eq_false,if_false];rw[ar];have am:Found L s G (GG s1 o).1.ws:=by
   rw[ab];exact(Tf e.y (by rw[J.2 8 U U];exact P)).from J.1 (λj aG=>J.2 j O O)
  rcases Y5 (lf:=aD) (o:Int) al am with⟨aE,ad⟩|m
  ·rw[ad];exact .inl ⟨aE,rfl⟩
  ·exact .inr m
 ·right;split
  ·exact m
  ·exact OQ m _
def Aoz{w:ni}{l:List Past}{it:List Kv}{c:List nC->List Lk}(h:Hist L nJ ch w l it c):∀{s:St}(lf:Int),CX L s it c->(∀l it c,Hist L nJ ch w l it c->G (s.ws 8) it c)->
 (∃x,QC ⟨.up lf,s⟩ l.reverse=⟨.up x,Ou s l.reverse⟩)\/Dn (Found L s G) (QC ⟨.up lf,s⟩ l.reverse):=by
 induction h with
 |nil=>exact λlf _ _=>.inl ⟨lf,rfl⟩
 |skip K _ t=>
  intro s lf b a;rw[XG,UE,VX,Ou,kX rfl,QC,show Kz ⟨.up lf,s⟩ (K,0,0)=(⟨.up lf,s⟩,0)from rfl];simp only[ne_eq,not_true_eq_false,if_false];exact t lf b a
 |add v e n q u i r k I t=>
  intro s lf b a;rename_i o _;obtain⟨s1,N,y,A,H,p⟩:=ZA e n q r b k;have F:Az o≠0:=λd=>by
   have:=congrArg P9 d;rw[DN O]at this;simp at this;omega
  rw[XG,UE,VX,Ou,lg F,QC];rcases Aoy e n q u i r b k lf (a _ _ _ v) (a _ _ _ (.add v e n q u i r k I))with⟨M,d⟩|m
  ·rw[d];rw[y]at*;simp only[ne_eq,not_true_eq_false,if_false];rw[Ky i,A];simp only;have B:N.ws 8=s.ws 8:=p.2 8 U U;rcases t M H (λl it c E=>by rw[B];exact a l it c E)with g|⟨P,C,D⟩
   ·exact .inl g
   ·exact .inr ⟨P,C,λws' J=>(D ws' J).from p.1 (λj Q=>p.2 j O O)⟩
  ·right;split
   ·exact m
   ·rw[kJ _ m];exact m
end
end
section
open Go.Shelf
def Tryz.keysA_ren:Go.Shelf.Ren:=⟨fun|7=>132|10=>175|n=>n,fun|23=>221|26=>3|3=>3|28=>246|0=>0|27=>245|33=>161|4=>4|n=>n,fun|n=>n⟩
def Tryz.keysA:Go.Proofs.SlLaysZI.n7 prog Tryz.keysA_ren:={
 mixed:=by kernel_rfl
 f7:=⟨Tryz.f132.name,by decide,func132.trans (congrArg some Γ)⟩
 f10:=⟨Tryz.f175.name,by decide,func175.trans (congrArg some Γ)⟩
 t0:=underlying0
 a0:=Tryz.isAgg0
 z0:=Tryz.sizeOf0
 v0:=Tryz.zeroValue0
 t4:=underlying4
 a4:=Tryz.isAgg4
 z4:=Tryz.sizeOf4
 v4:=Tryz.zeroValue4
 t23:=underlying221
 a23:=Tryz.isAgg221
 z23:=Tryz.sizeOf221
 v23:=Tryz.zeroValue221
 t26:=underlying3
 a26:=Tryz.isAgg3
 z26:=Tryz.sizeOf3
 v26:=Tryz.zeroValue3
 t27:=underlying245
 a27:=Tryz.isAgg245
 z27:=Tryz.sizeOf245
 v27:=Tryz.zeroValue245
 t28:=underlying246
 a28:=Tryz.isAgg246
 z28:=Tryz.sizeOf246
 v28:=Tryz.zeroValue246
 t33:=underlying161
 a33:=Tryz.isAgg161
 z33:=Tryz.sizeOf161
 v33:=Tryz.zeroValue161}
def Tryz.sortedA_ren:Go.Shelf.Ren:=⟨fun|6=>131|8=>174|9=>92|11=>207|13=>137|12=>136|23=>186|24=>187|14=>178|15=>179|16=>180|17=>181|18=>182|19=>183|20=>147|21=>184|22=>185|25=>209|26=>210|27=>211|28=>212|29=>213|30=>193|31=>231|n=>n,fun|26=>3|28=>246|24=>117|0=>0|3=>3|37=>238|48=>111|50=>47|4=>4|40=>300|39=>299|45=>202|5=>5|9=>9|51=>329|55=>333|57=>353|58=>354|33=>161|n=>n,fun|n=>n⟩
def Tryz.sortedA:Go.Proofs.SlLaysZI.n6 prog Tryz.sortedA_ren:={
 mixed:=by kernel_rfl
 f6:=⟨Tryz.f131.name,by decide,func131.trans (congrArg some Γ)⟩
 f8:=⟨Tryz.f174.name,by decide,func174.trans (congrArg some Γ)⟩
 f11:=⟨Tryz.f207.name,by decide,func207.trans (congrArg some Γ)⟩
 t0:=underlying0
 a0:=Tryz.isAgg0
 z0:=Tryz.sizeOf0
 v0:=Tryz.zeroValue0
 t24:=underlying117
 a24:=Tryz.isAgg117
 z24:=Tryz.sizeOf117
 v24:=Tryz.zeroValue117
 t26:=underlying3
 a26:=Tryz.isAgg3
 z26:=Tryz.sizeOf3
 v26:=Tryz.zeroValue3
 t28:=underlying246
 a28:=Tryz.isAgg246
 z28:=Tryz.sizeOf246
 v28:=Tryz.zeroValue246
 i26:=by kernel_rfl}
def Tryz.Akd:Go.Shelf.Ren:=⟨fun|5=>92|8=>137|7=>136|19=>186|20=>187|10=>178|11=>179|12=>180|13=>181|14=>182|15=>183|16=>147|17=>184|18=>185|30=>209|31=>210|32=>211|33=>212|34=>213|35=>193|40=>231|n=>n,fun|23=>117|25=>3|3=>3|32=>238|22=>117|0=>0|44=>111|46=>47|4=>4|36=>300|35=>299|41=>202|5=>5|9=>9|53=>329|57=>333|63=>353|64=>354|n=>n,fun|n=>n⟩
def Tryz.sortA:Go.Proofs.SlLaysM.n5 prog Tryz.Akd:={
 mixed:=by kernel_rfl
 f5:=⟨Tryz.f92.name,by decide,func92.trans (congrArg some Γ)⟩
 f7:=⟨Tryz.f136.name,by decide,func136.trans (congrArg some Γ)⟩
 f8:=func137.trans (congrArg some Γ)
 f10:=⟨Tryz.f178.name,by decide,func178.trans (congrArg some Γ)⟩
 f11:=⟨Tryz.f179.name,by decide,func179.trans (congrArg some Γ)⟩
 f12:=⟨Tryz.f180.name,by decide,func180.trans (congrArg some Γ)⟩
 f13:=⟨Tryz.f181.name,by decide,func181.trans (congrArg some Γ)⟩
 f14:=⟨Tryz.f182.name,by decide,func182.trans (congrArg some Γ)⟩
 f15:=⟨Tryz.f183.name,by decide,func183.trans (congrArg some Γ)⟩
 f16:=⟨Tryz.f147.name,by decide,func147.trans (congrArg some Γ)⟩
 f17:=⟨Tryz.f184.name,by decide,func184.trans (congrArg some Γ)⟩
 f18:=⟨Tryz.f185.name,by decide,func185.trans (congrArg some Γ)⟩
 f19:=func186.trans (congrArg some Γ)
 f20:=func187.trans (congrArg some Γ)
 f30:=⟨Tryz.f209.name,by decide,func209.trans (congrArg some Γ)⟩
 f31:=func210.trans (congrArg some Γ)
 f32:=func211.trans (congrArg some Γ)
 f33:=⟨Tryz.f212.name,by decide,func212.trans (congrArg some Γ)⟩
 f34:=⟨Tryz.f213.name,by decide,func213.trans (congrArg some Γ)⟩
 f35:=⟨Tryz.f193.name,by decide,func193.trans (congrArg some Γ)⟩
 f40:=⟨Tryz.f231.name,by decide,func231.trans (congrArg some Γ)⟩
 t0:=underlying0
 a0:=Tryz.isAgg0
 z0:=Tryz.sizeOf0
 v0:=Tryz.zeroValue0
 t3:=underlying3
 a3:=Tryz.isAgg3
 z3:=Tryz.sizeOf3
 v3:=Tryz.zeroValue3
 t4:=underlying4
 a4:=Tryz.isAgg4
 z4:=Tryz.sizeOf4
 v4:=Tryz.zeroValue4
 t5:=underlying5
 a5:=Tryz.isAgg5
 z5:=Tryz.sizeOf5
 v5:=Tryz.zeroValue5
 t9:=underlying9
 a9:=Tryz.isAgg9
 z9:=Tryz.sizeOf9
 v9:=Tryz.zeroValue9
 t22:=underlying117
 a22:=Tryz.isAgg117
 z22:=Tryz.sizeOf117
 v22:=Tryz.zeroValue117
 t23:=underlying117
 a23:=Tryz.isAgg117
 z23:=Tryz.sizeOf117
 v23:=Tryz.zeroValue117
 t25:=underlying3
 a25:=Tryz.isAgg3
 z25:=Tryz.sizeOf3
 v25:=Tryz.zeroValue3
 t32:=underlying238
 a32:=Tryz.isAgg238
 z32:=Tryz.sizeOf238
 v32:=Tryz.zeroValue238
 t35:=underlying299
 a35:=Tryz.isAgg299
 z35:=Tryz.sizeOf299
 v35:=Tryz.zeroValue299
 t36:=underlying300
 a36:=Tryz.isAgg300
 z36:=Tryz.sizeOf300
 v36:=Tryz.zeroValue300
 t41:=underlying202
 a41:=Tryz.isAgg202
 z41:=Tryz.sizeOf202
 v41:=Tryz.zeroValue202
 t44:=underlying111
 a44:=Tryz.isAgg111
 z44:=Tryz.sizeOf111
 v44:=Tryz.zeroValue111
 t46:=underlying47
 a46:=Tryz.isAgg47
 z46:=Tryz.sizeOf47
 v46:=Tryz.zeroValue47
 t53:=underlying329
 a53:=Tryz.isAgg329
 z53:=Tryz.sizeOf329
 v53:=Tryz.zeroValue329
 t57:=underlying333
 a57:=Tryz.isAgg333
 z57:=Tryz.sizeOf333
 v57:=Tryz.zeroValue333
 t63:=underlying353
 a63:=Tryz.isAgg353
 z63:=Tryz.sizeOf353
 v63:=Tryz.zeroValue353
 t64:=underlying354
 a64:=Tryz.isAgg354
 z64:=Tryz.sizeOf354
 v64:=Tryz.zeroValue354}
end
section
section
variable{P:Program}{ops:Array Oper}{Q:Exit->Act->World->Prop}{n l0:Nat}
def aZ(Q:Exit->Act->World->Prop):Exit->Act->World->Prop:=λa b w=>a≠.outgrown/\Q a b w
def aZ.not:¬LetsOut (aZ Q):=λ⟨_,_,h,_⟩=>h rfl
def kK{o:Oper}{a:Act}{K g:Act->World->Prop}(b:∀a w,K a w->g a w){r:Result Next}(h:o.upon P a K (aZ Q) r):o.uponIn (Fence.wide.inRound l0) n P a g Q r:=by
 cases r with
 |ok x w'=>
  cases x with
  |value v=>exact b _ _ h
  |skip=>exact b _ _ h
  |defer d=>exact b _ _ h
  |enter m c=>
   refine⟨λh=>(by cases h),CallsIn.inRound l0 ((callsIn_wide.2 (show Calls P m c w' _ from h)).mono ?_)⟩;intro l j e;cases l with
   |returned v=>exact b _ _ e
   |panicked i=>exact e.2
   |outgrown=>exact(aZ.not e).elim
  |row row c=>exact⟨λh=>(by cases h),λi k _=>let⟨v,j,q,s⟩:=(show Rows P row c w' _ from h) i k;⟨v,j,b _ _ q,stepsIn_wide.2 s⟩⟩
  |_=>exact h.elim
 |halt x w'=>
  cases x with
  |panic v=>exact h.2
  |_=>exact h.elim
def KX(b:∀o∈ops,∀g,o.op≠.defer g):∀(l:List Nat)(a:Act)(w:World),wpOps P ops (aZ Q) l a w->wpOpsIn (Fence.wide.inRound l0) n P ops Q l a w
 |[],_,_,h=>h.2
 |i::e,a,w,h=>by
  unfold wpOps at h;unfold wpOpsIn;cases c:ops[i]? with
  |none=>rw[c]at h;exact KX b e _ _ h
  |some o=>
   rw[c]at h;simp only at h⊢;split at h
   ·rename_i d;rw[kX d];rcases h with h|⟨_,h⟩
    ·refine⟨λ_ _=>trivial,?_⟩;rw[show(Fence.wide.inRound l0).round=some l0 from rfl,Oper.semAt_some l0 _ _ (b o (Array.mem_of_getElem? c))];exact kK (KX b e) h
    ·exact(aZ.not h).elim
   ·rename_i d;rw[lg d];exact⟨λ_ _=>trivial,KX b e _ _ h⟩
def vK(ops:Array Oper):Bool:=ops.all λo=>match o.op with| .defer _=>false|_=>true
def vM(h:vK ops=true):∀o∈ops,∀a,o.op≠.defer a:=λo c a b=>by
 have:=Array.all_eq_true_iff_forall_mem.1 h o c;rw[b]at this;cases this
def Y8{S:World->Prop}{id:Nat}{a:Act}{w:World}(c:P.follows .mixedOrders=true)(b:vK ops=true)
 (h:wpAnyH P .any ops (aZ Q) S ops.size (Als ops.size false) a {w with drawn:=w.drawn+1}):(Code.region id ops true).wpIn (Fence.wide.inRound l0) n P Q a w:=
 wpIn_region_draw λt=>by
  simp only[Region.schedule,c,Bool.true_or,if_true];exact KX (vM b) _ _ _ (wpAny_sound ops.size t _ a _ (wpAny_of_held _ _ _ _ h))
def NC{S:World->Prop}{id:Nat}{a:Act}{w:World}(d:P.follows .mixedOrders=true)(c:vK ops=true)(b:S w.drew)
 (h:S w.drew->wpAnyH P .any ops (aZ Q) S ops.size (Als ops.size false) a w.drew):(Code.region id ops true).wpIn (Fence.wide.inRound l0) n P Q a w:=
 Y8 d c (h b)
end
open Go.RowKit
def Ti{w:World}{pI base' k n:Nat}{e:TypeId}{v:Value}{xs:List Value}(h:w.ownsRow pI e k v n xs)(f:base'<=pI):w.ownsRow base' e k v n xs:=
 ⟨h.1,h.2.imp id λ⟨g,d,i,a,b,c⟩=>⟨g,d,i,a,AZ f b,c⟩⟩
def Aao:∀(s:List Wr)(k:Nat)(x:Wr),k<s.length->(((GK s).set (k*3) (.string x.key)).set (k*3+1) (.string x.text)).set (k*3+2) (.bool x.gone)=GK (s.set k x)
 |a::t,0,x,_=>by simp[GK,wrC]
 |a::t,k+1,x,h=>by
  have d:=Aao t k x (by simpa using h);have b:GK (a::t)=.string a.key:: .string a.text:: .bool a.gone::GK t:=by simp[GK,wrC]
  have c:GK ((a::t).set (k+1) x)=.string a.key:: .string a.text:: .bool a.gone::GK (t.set k x):=by simp[GK,wrC]
  rw[b,c,show(k+1)*3=k*3+1+1+1 by omega];simp only[Aw];rw[d]
def Ake(s:List Wr)(k:Nat)(a:k<=s.length):(GK s).take (k*3)=GK (s.take k):=by
 have h:=Yp (s.take k) (s.drop k);rw[DY]at h;rw[h,List.take_append_of_le_length (by rw[Qv];simp;omega),Dq (by rw[Qv];simp;omega)]
def Akf(s:List Wr)(k:Nat)(b:k<=s.length):(GK s).drop (k*3)=GK (s.drop k):=by
 have h:=Yp (s.take k) (s.drop k);rw[DY]at h;have a:(GK (s.take k)).length=k*3:=by rw[Qv];simp;omega
 rw[h,List.drop_append_of_le_length O,<-a,List.drop_length,DR]
section
variable{w:World}{G:Nat->Prop}{v:Value}{s:List Wr}
def Aap(h:FP w G v s)(J:s.length<=16)(x:Wr)(C:x.key.size<=4294967296)(E:x.text.size<=4294967296)(i:D5 x=false):
 Calls prog 155 #[v,OY x] w λe w'=>∃c,e=.returned (.tuple #[c,.int .i64 (IV s x).2])/\w'.ownsRow w 143 3 c (IV s x).1.length (GK (IV s x).1)/\η w w':=by
 obtain⟨b,g,f,B⟩:=E5 w 143 [x.key,x.text,x.gone];have a:=Ac (λb=>SI x b C E);rw[i]at a;have A:=Ac (λb(k:η w b)=>Oq (h.below k) O);obtain⟨F,H,rfl,I,D⟩:=h;have l:=Ac f;have u:=Ac g;obtain⟨p,q,r⟩:=B.p3;rw[g]at p q r;unfold OY at a⊢;have j:Hid (IV s x=(s,2)):=Ac (by unfold IV;rw[kX i]);clear i B f g D;go_in;go_wp2_with(first|(rw[<-u.out];refine(a _).mono ?_;rintro e K⟨rfl,n⟩;have d:=Ac (τ l.out n);clear a n l p q r)|(refine(A _ d).mono ?_;rintro e L⟨c,rfl,m,o⟩;have t:=Ac (Ti m d.size);have y:=Ac (τ d.out o);clear m o));go_ret2;exact⟨c,by rw[j.out];rfl,by rw[j.out];exact t,y⟩
def vN(h:FP w G v s)(X:s.length<=16)(x:Wr)(T:x.key.size<=4294967296)(U:x.text.size<=4294967296)(t:D5 x=true)(K:QY s)(r:ny s x.key=false)(I:16<=s.length):
 Calls prog 155 #[v,OY x] w λi w'=>∃j,i=.returned (.tuple #[j,.int .i64 (IV s x).2])/\w'.ownsRow w 143 3 j (IV s x).1.length (GK (IV s x).1)/\η w w':=by
 obtain⟨a,o,f,B⟩:=E5 w 143 [x.key,x.text,x.gone];have g:=Ac (λa=>SI x a T U);rw[t]at g;have R:=Ac (λa(k:η w a)=>Oq (h.below k) O);obtain⟨V,S,rfl,W,J⟩:=h;obtain⟨N,u,C,P⟩:=lL J.1 B f o;obtain⟨b,c,d⟩:=B.p3;rw[o]at b c d;unfold OY at g⊢;have A:Hid (IV s x=(s,3)):=Ac (by unfold IV;rw[lg (by rw[t];decide),lg (by rw[r];decide),kX I]);have e:=Ac (λa(k:η w a)=>Yt (c:=S) x.key O (Rd.below N k) K);rw[r]at e;obtain⟨D,H⟩:∃D,Hf s x.key=D:=⟨_,rfl⟩;rw[H]at e;have t1:=dT ((16:Int)<=(s.length:Int));clear t r K H I B f o J;go_in;go_wp2_with(first|(rw[<-P.out];refine(g _).mono ?_;rintro i Y⟨rfl,p⟩;have l:=u.out.ξ p;have m:=Ac (τ C.out p);clear b c d;obtain⟨b,c,d⟩:=l.p3;have y:=Ac l;clear g p l u C)|(refine(e _ m).mono ?_;rintro i Z⟨rfl,q⟩;have n:=Ac (τ m.out q);have L:=Ac (y.out.ξ q);clear b c d;obtain⟨b,c,d⟩:=L.p3;clear e q y m)|(refine(R _ n).mono ?_;rintro i aa⟨j,rfl,E,F⟩;have M:=Ac (Ti E n.size);have Q:=Ac (τ n.out F);clear E F));go_ret2;exact⟨j,by rw[A.out];rfl,by rw[A.out];exact M,Q⟩
def Aaq(h:FP w G v s)(a0:s.length<=16)(x:Wr)(an:x.key.size<=4294967296)(ao:x.text.size<=4294967296)(L:D5 x=true)(X:QY s)(r:ny s x.key=true):
 Calls prog 155 #[v,OY x] w λn w'=>∃t,n=.returned (.tuple #[t,.int .i64 (IV s x).2])/\w'.ownsRow w 143 3 t (IV s x).1.length (GK (IV s x).1)/\η w w':=by
 obtain⟨i,H,f,B⟩:=E5 w 143 [x.key,x.text,x.gone];have l:=Ac (λi=>SI x i an ao);rw[L]at l;have S:=Ac (λi(k:η w i)=>Oq (h.below k) O);obtain⟨aE,ae,rfl,aW,W⟩:=h;obtain⟨aa,N,R,ab⟩:=lL W.1 B f H;obtain⟨c,d,e⟩:=B.p3;rw[H]at c d e;unfold OY at l⊢;have C:Hid (IV s x=(s.set (Hf s x.key) x,0)):=Ac (by unfold IV;rw[lg (by rw[L];decide),kX r]);have j:=Ac (λi(k:η w i)=>Yt (c:=ae) x.key O (Rd.below aa k) X);rw[r]at j;have q:=Adm r;obtain⟨a,V⟩:∃a,Hf s x.key=a:=⟨_,rfl⟩;rw[V]at j C q;obtain⟨t1,t2⟩:=xk q;clear L r X V B f H W;go_in;go_wp2_with(first|(rw[<-ab.out];refine(l _).mono ?_;rintro n a5⟨rfl,I⟩;have y:=N.out.ξ I;have D:=Ac (τ R.out I);clear c d e;obtain⟨c,d,e⟩:=y.p3;have P:=Ac y;clear l I y N R)|(refine(j _ D).mono ?_;rintro n au⟨rfl,J⟩;have m:=Ac (τ D.out J);have Q:=Ac (P.out.ξ J);clear c d e;obtain⟨c,d,e⟩:=Q.p3;clear j J P D));refine(S _ m).mono ?_;rintro n M⟨t,rfl,F,K⟩;obtain⟨b,T,rfl,am⟩:∃b T,t=.slice (some (Φ b)) s.length T/\au<=b:=by
  rcases F.2 with⟨_,o⟩|⟨g,ah,aM,E,o,_⟩
  ·omega
  ·exact⟨g,ah,E,o⟩
 obtain⟨A,ac,Z⟩:=l9 (Ti F m.size) (τ m.out K) (Q.out.ξ K);have aR:=A.frozenAt;clear c d e;obtain⟨c,d,e⟩:=Z.p3;have ap:M.cell? (Δ b (a*3))=some (.string s[a].key)/\M.cell? (Δ b (a*3+1))=some (.string s[a].text)/\M.cell? (Δ b (a*3+2))=some (.bool s[a].gone):=by
  obtain⟨aG,aL,U,_,ar⟩:=C9 A;obtain⟨aI,a4,al,_,av⟩:=pY ar a q;subst al;simp only[Value.slice.injEq,Option.some.injEq,Addr.mk.injEq]at U;obtain⟨⟨E,o,_⟩,_⟩:=U;subst E o;simpa using av
 obtain⟨aw,az,aD⟩:=ap;generalize s[a].key=a3,s[a].text=a2,s[a].gone=a1 at aw az aD;clear F K S;have u:w<=b:=AZ m.size am;have ad:=Ac q;go_wp2_with fail;have Y:=(((A.stored (a*3) (.string x.key)).1.stored (a*3+1) (.string x.text)).1.stored (a*3+2) (.bool x.gone)).1;have aq:=((ac.setCell (p:=Δ b (a*3)) u (.string x.key)).setCell (p:=Δ b (a*3+1)) u (.string x.text)).setCell (p:=Δ b (a*3+2)) u (.bool x.gone);rw[Aao s a x ad.out]at Y;go_ret2;exact⟨_,by rw[C.out];rfl,by rw[C.out];simpa using Y,aq⟩
def Aar(h:FP w G v s)(bw:s.length<=16)(x:Wr)(bc:x.key.size<=4294967296)(be:x.text.size<=4294967296)(Y:D5 x=true)(o:QY s)(n:ny s x.key=false)(bt:s.length<16):
 Calls prog 155 #[v,OY x] w λN w'=>∃ac,N=.returned (.tuple #[ac,.int .i64 (IV s x).2])/\w'.ownsRow w 143 3 ac (IV s x).1.length (GK (IV s x).1)/\η w w':=by
 obtain⟨b,S,f,B⟩:=E5 w 143 [.string x.key,.string x.text,.bool x.gone];have r:=Ac (λb=>SI x b bc be);rw[Y]at r;have br:=Ac (λb(k:η w b)=>Oq (h.below k) O);obtain⟨g,l,rfl,bs,aI⟩:=h;obtain⟨F,al,an,aW⟩:=lL aI.1 B f S;obtain⟨c,d,e⟩:=B.p3;rw[S]at c d e;unfold OY at r⊢;have E:Hid (IV s x=(s.take (Hf s x.key)++x::s.drop (Hf s x.key),0)):=Ac (by unfold IV;rw[lg (by rw[Y];decide),lg (by rw[n];decide),lg O]);have q:=Ac (λb(k:η w b)=>Yt (c:=l) x.key O (Rd.below F.out k) o);rw[n]at q;have y:=iW s x.key;obtain⟨a,aE⟩:∃a,Hf s x.key=a:=⟨_,rfl⟩;rw[aE]at q E y;have t1:decide ((16:Int)<=(s.length:Int))=false:=decide_eq_false O;clear Y n o aE B f S aI;have X:∀b:World,(Instr.makeSlice 49 (.int .i64 0) (.int .i64 ((s.length:Int)+1))).run prog b=.ok (.slice (some (Φ b)) 0 (s.length+1)) (b.alloc (.cells (madeCells (Value.agg #[.string ⟨#[]⟩,.string ⟨#[]⟩,.bool false]).cells ((s.length+1)*3)) 143)):=λb=>by
  obtain⟨bl,bb,bh,bi,bj⟩:=info_parts Tryz.pU.hi;have:=run_make (P:=prog) (w:=b) 49 143 bl _ underlying49 bb bh .i64 .i64 0 ((s.length:Int)+1) O O (by rw[bj];omega) O;rw[bi]at this;simpa[show((s.length:Int)+1).toNat=s.length+1 by omega]using this
 obtain⟨p,Z⟩:∃p,madeCells (Value.agg #[.string ⟨#[]⟩,.string ⟨#[]⟩,.bool false]).cells ((s.length+1)*3)=p:=⟨_,rfl⟩;have bk:p.size=(s.length+1)*3:=by rw[<-Z];simp[madeCells]
 rw[Z]at X;have au:decide (a<=s.length)=true:=decide_eq_true y;clear Z;go_in;go_wp2_with(rw[<-aW.out];refine(r _).mono ?_;rintro N bA⟨rfl,T⟩;have A:=al.out.ξ T;have H:=Ac (τ an.out T);clear c d e;obtain⟨c,d,e⟩:=A.p3;have am:=Ac A;clear r T A al an);refine(q _ H.out).mono ?_;rintro N i⟨rfl,V⟩;have ao:=Ac (τ H.out V);have C:=Ac (am.out.ξ V);clear c d e;obtain⟨c,d,e⟩:=C.p3;clear q V am H;have bd:=X i;obtain⟨K,u⟩:=ε (i.alloc (.cells p 143));rw[<-u]at bd;have aD:K.ownsRow w 143 3 (.slice (some (Φ i)) 0 (s.length+1)) 0 []:=⟨by simp,.inr ⟨i,s.length+1,p,rfl,ao.size,u▸heap_alloc_new _ _,O,AZ (show s.length+1<=17 by omega) U,by rw[bk],by simp⟩⟩;have W:η i K:=u▸ mZ.alloc (Ae _) _;obtain⟨D,I,a1⟩:=l9 (C.out.ξ W) (τ ao.out W) aD;clear c d e;obtain⟨c,d,e⟩:=D.p3;have m:Rd K g (a*3) (GK (s.take a)):=by
  have R:=Rd.below F.out I.out;refine⟨by rw[Qv];simp;omega,λn=>?_⟩;obtain⟨M,ab,Q,aa,ae⟩:=R.2 O;exact⟨M,ab,Q,aa,λj aG=>by rw[ae j O,<-Ake s a y,Dh,kX aG]⟩
 have bm:=Ac m;clear X u aD W m;go_wp2_with(at_builtin;first
  |(refine Fq rfl (.tmp 39) (.tmp 42) 49 rfl Tryz.pU U w (.slice (some (Φ i)) 0 (s.length+1)) 0 [] rfl a1.out g a l (GK (s.take a)) rfl bm.out (jk _) O U I.size ?_
    intro bx ad t av az;rw[Du,DR]at t;obtain⟨aR,au,bg,_,_⟩:=C9 t;subst bg;have a3:=Ac t;have ap:=Ac (I.trans av);have ah:Cm ad w 143 [.string x.key,.string x.text,.bool x.gone]:=(az.2 w D.lt (by have:=C.lt;simp only[Value.ownBlock,ne_eq,Option.some.injEq];omega)).trans D.out;clear c d e;obtain⟨c,d,e⟩:=ah.p3;clear t av az ah)
  |(refine BU rfl (.tmp 44) (.tmp 46) 49 rfl Tryz.pU ad w (.slice aR a au) a (GK (s.take a)) [.string x.key,.string x.text,.bool x.gone] rfl a3.out rfl ad 1 rfl rfl rfl U (by intro ac o;simp at o;rcases o with rfl|rfl|rfl<;>rfl) O U ap.size ?_
    intro a7 a4 bq aL aw a8 ba;have a2:=Ac aL;have J:=Ac (ap.trans aw);have m:Rd bq (if l=a then g else g.map λL=>L.add (a*3)) ((s.length-a)*3) (GK (s.drop a)):=by
     have R:=Rd.below F.out J.out;refine⟨by rw[Qv];simp,λn=>?_⟩;obtain⟨M,ab,Q,aa,ae⟩:=R.2 O;subst Q;exact⟨M,ab+a*3,by rw[lg O,Option.map_some,Addr.add_lit],aa,λj aG=>by rw[Nat.add_assoc,ae (a*3+j) O,<-Akf s a y,List.getElem?_drop]⟩
    have aM:=Ac m;clear aL aw a8 ba m)
  |(refine Fq rfl (.tmp 48) (.tmp 51) 49 rfl Tryz.pU U w (.slice (some (Φ a7)) (a+1) a4) (a+1) (GK (s.take a)++[.string x.key,.string x.text,.bool x.gone]) rfl a2.out (if l=a then g else g.map λL=>L.add (a*3)) (s.length-a) (l-a) (GK (s.drop a)) rfl aM.out (jk _) O U J.size ?_
    intro bp bB ar aq a9;have bo:=Ac ar;have a0:=Ac (J.trans aq);clear ar aq a9)
  |fail)
 all_goals(
  go_ret2;have a5:a+1+(s.length-a)=(s.take a++x::s.drop a).length:=by simp;omega
  have a6:GK (s.take a)++[.string x.key,.string x.text,.bool x.gone]++GK (s.drop a)=GK (s.take a++x::s.drop a):=by rw[Yp];simp[GK,wrC]
  exact⟨bp,by rw[E.out];rfl,by rw[E.out,<-a5,<-a6];exact bo.out,a0.out⟩)
end
def tku{P:Program}{ops:Array Oper}{Q:Exit->Act->World->Prop}{d:Region.Mode}{S:World->Prop}(i:Nat){e:Oper}{fuel:Nat}{c:Array Bool}{a:Act}{w:World}(k:S w)(h:wpAnyH P d ops Q S fuel (c.setIfInBounds i true) (a.put e.dst undef) w)(hi:ops[i]?=some e:=by rfl)
 (b:(Region.noSelect ops&&(Region.free d ops c i&&(Region.ready d ops c).contains i))=true:=by kernel_rfl)(j:∀g a w,Q (.panic g) (a.put e.dst undef) w->Q (.panic g) a w:=by exact λ_ _ _ h=>h)(l:Region.wanted e (yielded ops a.tmps)=false:=by rfl):wpAnyH P d ops Q S (fuel+1) c a w:=by
 rw[Bool.and_eq_true,Bool.and_eq_true]at b;exact wpAnyH_take hi b.1 b.2.1 b.2.2 j (.inr ⟨l,rfl⟩) k h
def As6{w:World}{G:Nat->Prop}{v:Value}{l:List Wr}(h:FP w G v l)(i:∀b∈l,D5 b=true)(X:QY l)(aW:l.length<=16):Calls prog 112 #[v] w λH w'=>H=.returned true/\η w w':=by
 obtain⟨az,am,rfl⟩:=h.slice;obtain⟨R,aw,ah⟩:=l9 h i X;clear h i X;have t1:=dF ((16:Int)<(l.length:Int));go_in;go_wp2_with fail;go_loopw [10](λL wr=>∃k:Nat,k<=l.length/\L=.int .i64 (k:Nat)/\η w wr)(λL _=>l.length-(intOf L).toNat)
 case atStart=>exact⟨0,Nat.zero_le _,rfl,mZ⟩
 case round=>
  obtain⟨k,aR,rfl,f⟩:=hrel;have t:=Ac f;clear f;by_cases r:k<l.length
  ·obtain⟨j,n,aI,Y,_,an,_,ar,au,av⟩:=(R.below t).at k r;simp only[Value.slice.injEq]at Y;obtain⟨rfl,-,rfl⟩:=Y;have ao:=XH r;have a1:=XI k O;obtain⟨b,y⟩:=ε (l[k]);have i:=aw b (y▸BO r);have P:b.key.size<=4294967296/\b.text.size<=4294967296:=by
    unfold D5 at i;simp only[Bool.and_eq_true,decide_eq_true_eq]at i;omega
   have al:=Ac y;rw[<-y]at ar au av;have u:=Ac (λc=>SI b c P.1 P.2);unfold OY at u;obtain⟨e,T,U,o⟩:=E5 wr 143 [b.key,b.text,b.gone];obtain⟨A,B,C⟩:=o.p3;have Q:=Ac (τ t.out U);have x:Hid (∀c,η e c->c.cell? (Φ wr)=some (.string b.key)/\c.cell? (Δ wr 1)=some (.string b.text)/\c.cell? (Δ wr 2)=some (.bool b.gone)):=Ac (λc k=>⟨(o.ξ k).cell 0,(o.ξ k).cell 1,(o.ξ k).cell 2⟩);have E:=Ac T;clear T o U y;rw[i]at u;clear i;by_cases V:k=0
   ·have ap:=dF ((0:Int)<(k:Int));have aq:=dF (0<k);clear V;go_wp2_with fail;rw[<-E.out];refine wp_region_held_drew (S:=(λw'=>w'.cell? (Φ wr)=some (.string b.key)/\w'.cell? (Δ wr 1)=some (.string b.text)/\w'.cell? (Δ wr 2)=some (.bool b.gone))) Γ ⟨A,B,C⟩ (λa=>?_);refine Nj 0 (.agg #[b.key,b.text,b.gone]) a (hy:=λw g=>by obtain⟨s0,s1,M⟩:=g;go_simp) ?_
    try simp only[Act.put,Au,Aj,Ah,Aq,Aw]
    refine wpAnyH_ready (rs:=[1]) Γ Θ ?_;refine AllReadyH.cons rfl (λF p=>?_) AllReadyH.nil;go_simp;go_at_call 166;refine(u _).mono ?_;rintro H N⟨rfl,q⟩;have d:η e N:=((mX _).trans q);refine p.out _ _ (x _ d) (λa=>?_);clear p F
    try simp only[Act.put,Au,Ak,Aj,Ah,Aq,Aw]
    refine Nj 2 (.bool false) a ?_;refine Nj 3 (.bool false) a ?_;refine Nj 4 (.int .i64 (k:Int)) a ?_
    try simp only[Act.put,Au,Ak,Aj,Ah,Aq,Aw]
    refine Nj 5 (.bool false) a ?_;refine Nj 6 (.bool false) a ?_;refine tku 7 a ?_
    try simp only[Act.put,Au,Ak,Aj,Ah,Aq,Aw]
    refine tku 8 a ?_;refine tku 9 a ?_;refine tku 10 a ?_
    try simp only[Act.put,Au,Ak,Aj,Ah,Aq,Aw]
    refine tku 11 a ?_;refine tku 12 a ?_;refine tku 13 a ?_
    try simp only[Act.put,Au,Ak,Aj,Ah,Aq,Aw]
    refine tku 14 a ?_;refine tku 15 a ?_;refine Nj 16 (.bool false) a ?_
    try simp only[Act.put,Au,Ak,Aj,Ah,Aq,Aw]
    refine Nj 17 (.bool false) a ?_
    try simp only[Act.put,Au,Ak,Aj,Ah,Aq,Aw]
    refine wpAnyH_done Γ ?_ _;have D:=Ac (τ Q.out d);clear q d A B C a;go_wp2;exact⟨⟨k+1,O,by go_num,D⟩,mz⟩
   ·obtain⟨m,W⟩:∃m,k=m+1:=⟨k-1,O⟩;have ad:=Ac W;have I:m<l.length:=O;obtain⟨aG,aD,aL,Z,_,aM,_,aa,_,_⟩:=(R.below t).at m I;simp only[Value.slice.injEq,Option.some.injEq,Addr.mk.injEq,true_and,and_true]at Z;obtain⟨⟨rfl,rfl⟩,rfl⟩:=Z;obtain⟨s,K⟩:=ε (l[m]'I);rw[<-K]at aa;have J:e.cell? (Δ j (n+m*3))=some (.string s.key):=by rw[E.out];exact(BQ (w:=wr) (χ _ _ an)).trans aa
    have ae:Hid (∀c,η e c->c.cell? (Δ j (n+m*3))=some (.string s.key)):=Ac (λc k=>(BQ (w:=e) (k.block _ (Hq e _ J))).trans J);have a0:Op.bytesLess s.key.toList b.key.toList=true:=by
     have ac:=ad.out;subst ac;rw[K,al.out];exact ah.lt I r (Nat.lt_succ_self m)
    have ap:=dT ((0:Int)<(k:Int));have aq:=dT (0<k);have a2:IntKind.i64.wrap ((k:Int) -1)=(m:Int):=(IntWalk.i64_in _ O).trans O;have aE:(m:Int)<(l.length:Int):=O;clear W V K;go_wp2_with fail;rw[<-E.out];refine wp_region_held_drew (S:=(λw'=>w'.cell? (Φ wr)=some (.string b.key)/\w'.cell? (Δ wr 1)=some (.string b.text)/\w'.cell? (Δ wr 2)=some (.bool b.gone)/\w'.cell? (Δ j (n+m*3))=some (.string s.key))) Γ ⟨A,B,C,J⟩ (λa=>?_);refine Nj 0 (.agg #[b.key,b.text,b.gone]) a (hy:=λw g=>by obtain⟨s0,s1,M,ab⟩:=g;go_simp) ?_
    try simp only[Act.put,Au,Aj,Ah,Aq,Aw]
    refine wpAnyH_ready (rs:=[1]) Γ Θ ?_;refine AllReadyH.cons rfl (λF p=>?_) AllReadyH.nil;go_simp;go_at_call 166;refine(u _).mono ?_;rintro H N⟨rfl,q⟩;have d:η e N:=((mX _).trans q);refine p.out _ _ (⟨(x _ d).1,(x _ d).2.1,(x _ d).2.2,ae _ d⟩) (λa=>?_);clear p F
    try simp only[Act.put,Au,Ak,Aj,Ah,Aq,Aw]
    refine Nj 2 (.bool false) a ?_;refine Nj 3 (.bool false) a ?_;refine Nj 4 (.int .i64 (k:Int)) a ?_
    try simp only[Act.put,Au,Ak,Aj,Ah,Aq,Aw]
    refine Nj 5 (.bool true) a ?_;refine Nj 6 (.bool true) a ?_;refine Nj 7 (.slice (some (Δ j n)) l.length am) a ?_
    try simp only[Act.put,Au,Ak,Aj,Ah,Aq,Aw]
    refine Nj 8 (.int .i64 (k:Int)) a ?_;refine Nj 9 (.int .i64 (m:Int)) a ?_;refine Nj 10 (.pointer (some (Δ j (n+m*3)))) a ?_
    try simp only[Act.put,Au,Ak,Aj,Ah,Aq,Aw]
    refine Nj 11 (.pointer (some (Δ j (n+m*3)))) a ?_;refine Nj 12 (.string s.key) a (hy:=λw g=>by obtain⟨s0,s1,M,ab⟩:=g;go_simp) ?_;refine Nj 13 (AB wr) a ?_
    try simp only[Act.put,Au,Ak,Aj,Ah,Aq,Aw]
    refine Nj 14 (.string b.key) a (hy:=λw g=>by obtain⟨s0,s1,M,ab⟩:=g;go_simp) ?_;refine Nj 15 (.bool false) a ?_;refine Nj 16 (.bool false) a ?_
    try simp only[Act.put,Au,Ak,Aj,Ah,Aq,Aw]
    refine Nj 17 (.bool false) a ?_
    try simp only[Act.put,Au,Ak,Aj,Ah,Aq,Aw]
    refine wpAnyH_done Γ ?_ _;have D:=Ac (τ Q.out d);clear q d A B C a;go_wp2;exact⟨⟨k+1,O,by go_num,D⟩,mz⟩
  ·obtain⟨ao,a3⟩:=wO r;go_wp2;go_ret;exact⟨rfl,t⟩
section
variable{len:Mode}{w w':World}{x d p L:Nat}{s:St}{F:Nat->Prop}
def vO(h:Fg len w d p L s F){G:Nat->Prop}{v:Value}{l:List Wr}(j:FP w G v l)(E:∀W∈l,D5 W=true)(I:QY l)(D:l.length<=16){nK:ni}(h1:(s.ws 8).toNat<nK.toNat)(h2:nK.toNat<=60000):
 Calls prog 66 #[AB d,AB p,AB x,nK,v] w λn w'=>η w w'/\∃jb vs,n=.returned (.tuple #[AB jb,.int .i64 0])/\
  w.heap.size<=jb/\Cm w' jb 228 (EH x d p nK vs (.slice none 0 0) false 0)/\∀G:Nat->Prop,(∀a,w.heap.size<=a->a<jb->¬G a)->FP w' G vs l:=by
 have Q:=h.pos.1;have t0:(((L*64:Nat):Int)==0)=false:=ζ O;have m:=Ac h.size;obtain⟨J,H⟩:∃J,L*64=J:=⟨_,rfl⟩;rw[H]at t0 m;have R:=h.pos.2.2.1.fits;have S:=h.pos.2.2.1.Qo;have k:=Ac (h.load 8 O);rw[show((8*8:Nat):Int)=64 from rfl]at k;obtain⟨X,Y,rfl⟩:=j.slice;have y:=Ac (As6 j E I D);have N:=Ac j;have K:Hid (l.length<=100000):=Ac O;have t2:=dF (nK.toNat<=(s.ws 8).toNat);have t3:=dF ((60000:Int)<(nK.toNat:Int));clear h j H Q R S E I D h1 h2;go_in;go_wp2_with(first|(refine m.out.ro ?_)|(refine k.out.ro ?_)|(refine y.out.mono ?_;rintro n aa⟨rfl,q⟩;have u:=Ac (Oq (N.below q) K);have t:=Ac q;clear q m k y)|(refine u.mono ?_;rintro n c⟨Z,rfl,o,B⟩;obtain⟨e,g,V,_,_⟩:=C9 o;subst V;have M:=Ac o;have r:=Ac (τ t.out B);clear o B u));go_ret2;obtain⟨A,b⟩:=ε (c.alloc (.cells (EH x d p nK (.slice e l.length g) (.slice none 0 0) false 0).toArray 228));have i:η c A:=b▸ mZ.alloc (Ae _) _;have C:Cm A c.heap.size 228 (EH x d p nK (.slice e l.length g) (.slice none 0 0) false 0):=b▸heap_alloc_new _ _;refine⟨by rw[b]at i;exact τ r.out i,c.heap.size,.slice e l.length g,rfl,r.size,by rw[b]at C;exact C,λG P=>?_⟩;have U:FP c G (.slice e l.length g) l:=Yq M rfl (λa f T=>P a (AZ t.size f) T);rw[b]at i;exact U.below i
end
end
section
open Go.RowKit Go.Shelf
attribute [local go_sem]Oper.semAt_some
end
section
open Go.RowKit
section
variable{w:World}{x d p L:Nat}{s:St}{F:Nat->Prop}{nJ:List Kv}{P:(Nat->ni)->Prop}
def Akg(h:KH (.down P) w x d p L s F):Calls prog 158 #[AB x] w λc w'=>c=.returned (.tuple #[.int .u64 0,.int .i64 12])/\η w w':=by
 have u:=h.box.p1;obtain⟨l0,k,b,_⟩:=h.L0;obtain⟨r,f,n,q,o,own,i,hF⟩:=h.sys;obtain⟨g,l,m,e⟩:=V5.blk i.dev;have a:=Amo d L g 9 1 l m w l0 k e (Ξ b.fits b.Qo b.CE) U;rw[show((8*9:Nat):Int)=72 from rfl,show((1:Nat):Int)=1 from rfl]at a;have a:=Ac a;clear h b i hF e;go_in;go_wp2_with(refine a.out.mono ?_;rintro c t⟨rfl,f⟩;have j:=Ac f;clear f a);go_ret2;exact⟨rfl,j⟩
def Vs(h:KH (.down P) w x d p L s F)(key:nG)(u:key.size<=1000):Calls prog 105 #[AB x,key] w λa w'=>a=.returned (.tuple #[.slice none 0 0,.slice none 0 0,.int .i64 12])/\η w w':=by
 have c:=Ac (Al1 key w O);have j:=Ac (λ(l:World)(m:η w l)=>Akg (h.below m));clear h;go_in;go_wp2_with(first|(refine c.out.mono ?_;rintro a o⟨v,rfl,i,e⟩;obtain⟨q,r,rfl,t,n⟩:=CY i;have b:=Ac e;clear c i n e)|(refine(j o b).mono ?_;rintro a y⟨rfl,g⟩;have k:=Ac (τ b.out g);clear g j));refine bodyPost_ret (v:=.tuple #[.slice none 0 0,.slice none 0 0,.int .i64 12]) (by simp[results,results105,go_sem]) rfl ?_;exact⟨rfl,k⟩
end
section
variable{w:World}{x d p L:Nat}{s:St}{F:Nat->Prop}{P:(Nat->ni)->Prop}{q:Ms}
def A0x(h:pz w x d p L q F)(key:nG)(j:key.size<=16):Calls prog 57 #[AB x,key] w (GetPost (getD q key) w):=by
 obtain⟨g,s⟩:=q;cases g with
 |up lf=>exact qg (len:=MU lf) h key O
 |down P=>
  have h:KH (.down P) w x d p L s F:=h;have a:=Ac (Jc h key O);have b:=Ac (Vs h key O);rw[lg (show¬16<key.size by omega)]at a;show Calls _ _ _ _ (GetPost (0,12) w);clear h;go_in;go_wp2_with(first|(refine a.out.ro ?_;clear a)|(refine b.mono ?_;rintro i k⟨rfl,c⟩;have e:=Ac c;clear c b));go_ret2;exact⟨rfl,e⟩
def Aur(h:pz w x d p L q F)(key:nG)(m:key.size<=16)(a:ni)(i:a≠0):Calls prog 95 #[AB x,key,a] w (N8 (Wj q key a) x d p L F w):=by
 obtain⟨l,s⟩:=q;cases l with
 |up lf=>exact Aec h key O a
 |down P=>
  have h:KH (.down P) w x d p L s F:=h;obtain⟨b,e,j⟩:=l9 (Jc h key O) (Vs h key O) h;rw[lg (show¬16<key.size by omega)]at b;have t1:((a.toNat:Int)==0)=false:=by
   rw[beq_eq_false_iff_ne];intro k;exact i (Eb.1 (by simp;omega))
  show Calls _ _ _ _ (N8 (⟨.down P,s⟩,12) x d p L F w);clear h i;go_in;go_wp2_with(first|(refine b.out.ro ?_;clear b)|(refine e.mono ?_;rintro k n⟨rfl,g⟩;have c:=Ac g;clear g e));go_ret;exact⟨rfl,F,j.below c,mW c⟩
def A0y(h:pz w x d p L q F)(key:nG)(k:key.size<=16):Calls prog 94 #[AB x,key] w (SQ (Aam q key) x d p L F w):=by
 obtain⟨i,s⟩:=q;cases i with
 |up lf=>exact Aal h key O
 |down P=>
  have h:KH (.down P) w x d p L s F:=h;obtain⟨a,c,g⟩:=l9 (Jc h key O) (Vs h key O) h;rw[lg (show¬16<key.size by omega)]at a;show Calls _ _ _ _ (SQ (⟨.down P,s⟩,0,12) x d p L F w);clear h;go_in;go_wp2_with(first|(refine a.out.ro ?_;clear a)|(refine c.mono ?_;rintro j l⟨rfl,e⟩;have b:=Ac e;clear e c));go_ret2;exact⟨rfl,F,g.below b,mW b⟩
end
def As7{w:World}{x d p L:Nat}{q:Ms}{F:Nat->Prop}(h:pz w x d p L q F){jb:Nat}{nK:ni}{vs s:Value}{en:Int}(m:Wh w jb x d p nK vs s false en F)(key:nG)(o:key.size<=16)(v:ni):
 Calls prog 280 #[AB jb,key,v] w λi w'=>i=.returned (.int .i64 (MV q key v).2)/\∃n,pz w' x d p L (MV q key v).1 n/\AQ F n w w':=by
 have r:=m.box.c2;unfold EH at r;by_cases b:v=0
 ·have a:=Ac (A0y h key o);have c:Hid (MV q key v=((Aam q key).1,(Aam q key).2.2)):=Ac (by unfold MV;rw[kX b]);subst b;rw[show((0:ni).toNat:Int)=0 from rfl];clear h m;go_in;go_wp2_with(refine a.out.mono ?_;rintro i t⟨rfl,j,g,e⟩;have l:=Ac g;have k:=Ac e;clear a g e);go_ret;exact⟨by rw[c.out];rfl,j,by rw[c.out];exact l,k⟩
 ·have a:=Ac (Aur h key o v b);have c:Hid (MV q key v=Wj q key v):=Ac (by unfold MV;rw[lg b]);have t1:((v.toNat:Int)==0)=false:=ζ λi=>b (Eb.1 (by simp;omega))
  clear h m b;unfold N8 at a;go_in;go_wp2_with(refine a.out.mono ?_;rintro i t⟨rfl,j,g,e⟩;have l:=Ac g;have k:=Ac e;clear a g e);go_ret;exact⟨by rw[c.out];rfl,j,by rw[c.out];exact l,k⟩
end
section
open Go.RowKit Go.Maps
def Aas:∀(l:List (Int×Int))(i:Nat)(x:MapEntry),x∈Jr i l->∃p∈l,x.key=.int .i64 p.1
 |[],i,x,a=>by cases a
 |p::t,i,x,a=>by
  rcases Cb.1 a with rfl|a
  ·exact⟨p,Bf ..,rfl⟩
  ·obtain⟨q,c,b⟩:=Aas t _ x a;exact⟨q,Bi _ c,b⟩
def Y9:∀(n:Nat)(l:List (Int×Int)),l.length=n->(l.map (·.1)).Nodup->Go.MapKept.Stamped (Jr 0 l).toArray l.length
 |0,l,a,_=>by
  have:l=[]:=List.eq_nil_of_length_eq_zero a;subst this;exact Go.MapKept.stamped_empty 0
 |n+1,l,a,h=>by
  rcases List.eq_nil_or_concat l with rfl|⟨t,c,rfl⟩
  ·simp at a
  ·rw[List.concat_eq_append]at a h⊢;obtain⟨o,v⟩:=c;rw[CJ,List.nodup_append]at h;have e:=Y9 n t (by simpa using a) h.1;rw[iD,AO];have g:=Go.MapKept.stamped_push e (key:=.int .i64 o) (val:=.int .i64 v) (λx j b=>by
    obtain⟨p,i,d⟩:=Aas t 0 x (by simpa using j);rw[d]at b;injection b with _ b
    exact h.2.2 p.1 (CU.2 ⟨p,i,rfl⟩) o Θ b)
   simpa using g
def wf64{x:Int}(h: -9223372036854775808<=x)(k:x<=9223372036854775807):(Lit.int .i64 x).wf=true:=by
 have a:IntKind.i64.min= -9223372036854775808:=by decide
 have b:IntKind.i64.max=9223372036854775807:=by decide
 simp only[Lit.wf,a,b,Bool.and_eq_true,decide_eq_true_eq];exact⟨h,k⟩
def Nv.owns{w:World}{n:Nat}{l:List (Int×Int)}(h:Nv w n l)(r:(l.map (·.1)).Nodup)(a:∀p∈l,(Lit.int .i64 p.1).wf=true/\(Lit.int .i64 p.2).wf=true)(o:l.length<=maxLen):
 ∃d:DataW Unit,w.ownsMap prog 3 (plainElem prog 3) n l.length d/\(intKeys d).Perm (l.map (·.1))/\Maps.size d=l.length:=by
 have u:∀(l:List (Int×Int))(i:Nat),(∀p∈l,(Lit.int .i64 p.1).wf=true/\(Lit.int .i64 p.2).wf=true)->∀x∈Jr i l,∃p∈l,Go.WideElems.rd prog 3 (plainElem (H:=Unit) prog 3) x=some (.int .i64 p.1,.lit (.int .i64 p.2)):=by
  intro l;induction l with
  |nil=>intro i _ x b;cases b
  |cons p t k=>
   intro i a x b;rcases Cb.1 b with rfl|b
   ·refine⟨p,Bf ..,?_⟩;obtain⟨g,j⟩:=a p (Bf ..);exact Go.WideElems.rd_mk (keyOf_int_mk underlying3 g) (plainElem_int underlying3 j)
   ·obtain⟨q,s,e⟩:=k _ (λp c=>a p (Bi _ c)) x b;exact⟨q,Bi _ s,e⟩
 have m:∀(l:List (Int×Int))(i:Nat),(∀p∈l,(Lit.int .i64 p.1).wf=true/\(Lit.int .i64 p.2).wf=true)->(Jr i l).map (Go.WideElems.rg prog 3 (plainElem (H:=Unit) prog 3))=l.map λp=>(Lit.int .i64 p.1,DataW.lit (.int .i64 p.2)):=by
  intro l;induction l with
  |nil=>intro i _;rfl
  |cons p t k=>
   intro i a;obtain⟨g,j⟩:=a p (Bf ..);simp only[Jr,Ci];rw[k _ (λp c=>a p (Bi _ c)),Go.WideElems.rg_of (Go.WideElems.rd_mk (keyOf_int_mk underlying3 g) (plainElem_int underlying3 j))]
 have c:=Go.WideShapes.sorted_perm (l.map λp=>((Lit.int .i64 p.1,DataW.lit (.int .i64 p.2)):Lit×DataW Unit));refine⟨_,⟨_,_,h,⟨by simp[iE];exact o,Y9 _ l rfl r,λx b=>?_⟩,by simp[iE],rfl⟩,?_,?_⟩
 ·obtain⟨p,_,e⟩:=u l 0 a x (by simpa using b);exact⟨_,e⟩
 ·rw[show((Jr 0 l).toArray.toList)=Jr 0 l by simp,m l 0 a];refine(c.map (λp=>Go.intOf p.1)).trans ?_;rw[bG];exact List.Perm.of_eq rfl
 ·rw[show((Jr 0 l).toArray.toList)=Jr 0 l by simp,m l 0 a];show(List.foldr DataW.insert [] _).length=_;rw[c.length_eq,Df]
def Ao0(a:Nat)(w:World):Calls prog 132 #[.map (some a)] w λb w'=>b=.returned (.func (.func 175) #[] #[AB w])/\w'=w.alloc (.cells #[.map (some a)] 221):=
 (callsIn_wide (n:=5)).1 (AnyZI.keys_in Tryz.keysA Fence.wide 5 trivial rfl (some a) w)
def Tryz.sortsA(m:Nat):AnyZI.SortsIn prog Tryz.sortedA_ren Fence.wide m:=
 ⟨λc i b j a d e g=>callsIn_wide.2 (AnyM.slices_Sort_int Tryz.sortA c i b j a d e g),
  λp b a=>callsIn_wide.2 (AnyM.slices_Sort_int_none Tryz.sortA p b a)⟩
def Aat(b g:Nat)(w:World)(a:List Int)(k:w.cell? (Φ b)=some (.map (some g)))(A:Nv w g (a.map λo=>(o,1)))(l:a.Nodup)(m:∀o∈a,0<=o/\o<=65536):
 Calls prog 131 #[.func (.func 175) #[] #[AB b]] w λj w'=>∃v,j=.returned v/\
  w'.ownsRow w 3 1 v a.length ((a.mergeSort (λx E=>decide (x<=E))).map (Value.int .i64))/\η w w':=by
 have y:=Hq w _ k;have F:a.length<=65537:=SH 65537 a l (λo d=>Ω (m o d));obtain⟨i,t,c,e⟩:=A.owns (by rw[bG];simpa[Function.comp_def]using l) (λp B=>by
  obtain⟨o,d,rfl⟩:=CU.1 B;have:=m o d;exact⟨wf64 (by simp only;omega) (by simp only;omega),wf64 (by simp only;omega) (by simp only;omega)⟩) (by rw[Df];unfold maxLen;omega)
 rw[bG]at c;replace c:(intKeys i).Perm a:=by simpa[Function.comp_def]using c
 rw[Df]at e;have C:=AnyZI.keys_gives (ρ:=Tryz.keysA_ren) {Tryz.keysA with} Fence.wide 2 trivial rfl O b g _ i w y k t;have s:=AnyZI.sorted_in Tryz.sortedA Fence.wide 5 trivial trivial trivial trivial rfl O (Tryz.sortsA _) (enters_of func92 Γ rfl) 175 #[AB b] trivial (enters_of func175 Γ rfl) _ _ (by rw[e];unfold maxLen;omega) (by rw[e];omega) _ C;refine((callsIn_wide (n:=5)).1 s).mono ?_;rintro j w'⟨v,D,rfl,u,q,_,f⟩;have r:D.Perm a:=u.trans c;rw[r.length_eq,mergeSort_of_perm_i r]at q;exact⟨v,rfl,q,f⟩
def Aus(l:List Int):List Int:=l.mergeSort λx a=>decide (x<=a)
section
variable{len:Mode}{w w':World}{x d p L:Nat}{s:St}{F:Nat->Prop}
def Akh(s:St)(w:World)(e:Ending)(w':World):Prop:=
 η w w'/\match Em s with
  |none=>e=.returned (.tuple #[.slice none 0 0,.int .i64 5])
  |some (_,a)=>∃v,e=.returned (.tuple #[v,.int .i64 0])/\w'.ownsRow w 3 1 v a.length ((Aus a).map (Value.int .i64))/\a.length<=65537
def bf(h:KH len w x d p L s F):Calls prog 89 #[AB x] w (Akh s w):=by
 have i:=Ac (Y4 h);cases k:Em s with
 |none=>
  have e:=Ac k;clear h k;go_in;go_wp2_with(refine i.out.mono ?_;rintro j c⟨g,a⟩;rw[e.out]at a;replace a:j=.returned (.tuple #[.pointer none,.int .i64 5]):=a;subst a;have n:=Ac g;clear g i);go_ret2;refine⟨n,?_⟩;rw[e.out];rfl
 |some N=>
  obtain⟨P,u⟩:=N;have e:=Ac k;clear h k;go_in;go_wp2_with(refine i.out.mono ?_;rintro j c⟨g,a⟩;rw[e.out]at a;obtain⟨Q,l,v,rfl,r⟩:=a;have G:=r.box.cell 2;simp only[Ai,Af]at G;have n:=Ac g;have J:=Ac r;clear g i r);refine(Ao0 l c).mono ?_;rintro j m⟨rfl,t⟩;have q:η c m:=t▸ mZ.alloc (Ae _) _;have D:m.cell? (Φ c)=some (.map (some l)):=by
   have B:Cm m c 221 [.map (some l)]:=t▸heap_alloc_new _ _;exact B.cell 0
  have b:=J.below q;have A:=Ac (Aat c l m u D b.map b.nod b.rng);have y:=Ac (τ n.out q);have I:Hid (u.length<=65537):=Ac (SH 65537 u b.nod (λo M=>Ω (b.rng o M)));clear t q D b G;go_wp2_with(refine A.out.mono ?_;rintro j R⟨O,rfl,E,C⟩;have H:=Ac (τ y.out C);have K:=Ac (qH E y.size);clear C E A);go_ret2;refine⟨H,?_⟩;rw[e.out];exact⟨O,rfl,K,I⟩
def Aki(len:Mode)(s:St)(w:World)(d p L:Nat)(F:Nat->Prop)(e:Ending)(w':World):Prop:=
 η w w'/\match Em s with
  |none=>e=.returned (.tuple #[.pointer none,.int .i64 5])
  |some _=>∃x,e=.returned (.tuple #[AB x,.int .i64 0])/\KH len w' x d p L s F/\w<=x
def Aez(h:Fg len w d p L s F):Calls prog 46 #[AB d,AB p] w (Aki len s w d p L F):=by
 have u:=h.lt;obtain⟨P,q,m,-⟩:=E5 w 188 [AB d,AB p];have l:KH len P w d p L s F:=⟨h.below m,q▸heap_alloc_new _ _,λI=>Ω (u _ I)⟩;have o:Calls prog 19 #[AB d] w λj w'=>j=.returned (.int .i64 (L*64:Nat))/\w=w':=by
  obtain⟨M,f,n,G,E,own,h,_⟩:=h;exact h.dev.size h.L1
 have U:0<L:=by obtain⟨M,f,n,G,E,own,h,_⟩:=h;exact h.L0
 have t0:(((L*64:Nat):Int)==0)=false:=ζ O;generalize L*64=W at o t0;obtain⟨t,e,A,y,C⟩:=lM o (bf l) l m q;clear h o l m q u;go_in;go_wp2_with(refine t.out.ro ?_;clear t);rw[<-C.out];refine e.mono ?_;rintro j X⟨c,a⟩;have r:=Ac (τ y.out c);have B:=Ac (A.below c);cases b:Em s with
 |none=>
  rw[b]at a;replace a:j=.returned (.tuple #[.slice none 0 0,.int .i64 5]):=a;subst a;have i:=Ac b;clear b c e;go_wp2;go_ret2;refine⟨r,?_⟩;rw[i.out];rfl
 |some J=>
  obtain⟨V,K⟩:=J;rw[b]at a;obtain⟨N,rfl,v,_⟩:=a;obtain⟨Q,R,rfl⟩:∃x D,N=.slice x K.length D:=by
   rcases v.2 with⟨k,H⟩|⟨g,S,T,k,_⟩
   ·exact⟨none,0,by rw[k,H]⟩
   ·exact⟨_,_,k⟩
  have i:=Ac b;clear b c e v;go_wp2;go_ret2;refine⟨r,?_⟩;rw[i.out];exact⟨_,rfl,B,Ae _⟩
end
end
section
open Go.RowKit Go.Shelf
attribute [local go_sem]Oper.semAt_some
def qO(l:List Wr)(ps:List (ni×ni))(hpl:ps.length<=l.length)(q:Ms)(x:Below' ps.length):Ms×Int:=Kz q ((l[x.1]'(Bc x.2 hpl)).key,ps[x.1]'x.2)
def Le(l:List Wr)(ps:List (ni×ni))(hpl:ps.length<=l.length)(q:Ms):List (Below' ps.length)->Ms
 |[]=>q
 |x::a=>if(qO l ps hpl q x).2≠0 then(qO l ps hpl q x).1 else Le l ps hpl (qO l ps hpl q x).1 a
def J9{a e:World}{G:Nat->Prop}(B:Nat)(t:Touch G a e)(j:∀c,G c->c<a->KW a c):KeepsFrom B a e:=⟨t.size,λk o _ d m=>by
 have i:=(AL.1 d).1;rw[t.block k i (λl=>by
  obtain⟨n,b,g⟩:=j k l i;rw[d]at b;injection b with b
  rw[<-b,m]at g;cases g)]
 exact d⟩
def A0z(A:Option Addr)(n c:Nat)(w:World):Calls prog 279 #[.slice A n c] w λa w'=>a=.returned (.func (.func 282) #[] #[AB w])/\w'=w.alloc (.cells #[.slice A n c] 226):=by
 go_wp2;refine bodyPost_ret (v:=.func (.func 282) #[] #[AB w]) (by simp[results,results279,go_sem]) rfl ?_;exact⟨rfl,rfl⟩
def FU.ends{c:DJ}{w:World}{pI jb x d p L:Nat}{s:St}{nK:ni}{vs:Value}{l:List Wr}{ps:List (ni×ni)}{over:Bool}{en:Int}{F:Nat->Prop}{v:Value}(h:FU c w pI jb x d p L s nK vs l ps over en F v)(er:Int):
 FU c ((w.setCell (Δ jb 6) (.bool true)).setCell (Δ jb 7) (.int .i64 er)) pI jb x d p L s nK vs l ps true er F v/\AQ (JG F jb v) (JG F jb v) w ((w.setCell (Δ jb 6) (.bool true)).setCell (Δ jb 7) (.int .i64 er)):=by
 have t:Touch (·=jb) w ((w.setCell (Δ jb 6) (.bool true)).setCell (Δ jb 7) (.int .i64 er)):=((Touch.refl (·=jb) w).setCell (p:=Δ jb 6) (.inl rfl) _).setCell (p:=Δ jb 7) (.inl rfl) _;have m:AQ (JG F jb v) (JG F jb v) w ((w.setCell (Δ jb 6) (.bool true)).setCell (Δ jb 7) (.int .i64 er)):=⟨t.mono (λb a=>.inr (.inl a)),λb=>.inl⟩;exact⟨⟨⟨h.ix.sys.keep t (λb f a=>h.fj (a▸f)) h.gj.1 h.gj.2,h.ix.box.touch t h.xj,h.ix.out⟩,(h.box.Be 6 (.bool true)).Be 7 (.int .i64 er),Ie h.row t (λb f a=>h.mj (a▸f)),h.set.moved m,h.fj,h.bj,h.bx,h.bt,h.mj,h.mF⟩,m⟩
def Aau(w:World)(pI jb c d p L:Nat)(nK:ni)(vs:Value)(l:List Wr)(ps:List (ni×ni))(en:Int)(F:Nat->Prop)(v:Value)(q:Ms)(a:World):Prop:=
 (∃b,FU q.pw.mode a pI jb c d p L q.s nK vs l ps false en b v/\AQ (JG F jb v) (JG b jb v) w a)/\(Cm a w 162 [AB jb]/\Cm a (w+1) 226 [v])/\w.heap.size+2<=a
def Aau.grown{w:World}{pI jb r d p L:Nat}{nK:ni}{vs:Value}{l:List Wr}{ps:List (ni×ni)}{en:Int}{F:Nat->Prop}{v:Value}{q:Ms}{X Y:World}{row:Option Nat}(h:Aau w pI jb r d p L nK vs l ps en F v q X){B:Nat}(D:w<=B)(m:X.grownBy Y row)
 (n:∀a,row=some a->B<=a/\∃o,X.heap[a]?=some o/\o.isCells=false):Aau w pI jb r d p L nK vs l ps en F v q Y:=by
 obtain⟨⟨s,A,k⟩,⟨i,j⟩,C⟩:=h;have e:∀a,row=some a->¬KW X a:=λa b⟨o,x,g⟩=>by
  obtain⟨_,E,c,y⟩:=n a b;rw[x]at c;injection c with c
  rw[c,y]at g;cases g
 have t:=Gi m;exact⟨⟨s,A.abide m e,⟨k.touch.trans t (λu b=>.inr (Ω ((n u b).1))),k.own⟩⟩,⟨i.touch t (λb=>e _ b (Ef i)),j.touch t (λb=>e _ b (Ef j))⟩,AZ C t.size⟩
def Ag9{q:Ms}{w:World}{pI jb aD d p L:Nat}{nK:ni}{vs:Value}{l:List Wr}{ps:List (ni×ni)}{en:Int}{F:Nat->Prop}{A:Option Addr}{c:Nat}(h:FU q.pw.mode w pI jb aD d p L q.s nK vs l ps false en F (.slice A ps.length c))(hpl:ps.length<=l.length)(c8:l.length<=100000)(cx:∀cR∈l,cR.key.size<=16)(er:Int):
 Calls prog 277 #[AB jb,.int .i64 er] w λi w'=>i=.returned (.int .i64 er)/\∃j,FU (Le l ps hpl q (Dl ps.length ps.length)).pw.mode w' pI jb aD d p L (Le l ps hpl q (Dl ps.length ps.length)).s nK vs l ps true er j (.slice A ps.length c)/\
  AQ (JG F jb (.slice A ps.length c)) (JG j jb (.slice A ps.length c)) w w':=by
 have c6:=h.box.lt;have cF:=h.box.c5;unfold EH at cF;have cV:=Ac h;obtain⟨g,bR⟩:∃g,A=some (Φ g)\/(g=jb/\ps.length=0):=by
  rcases h.row.2 with⟨t,V⟩|⟨g,cW,cX,t,_⟩
  ·exact⟨jb,.inr ⟨rfl,by injection t⟩⟩
  ·exact⟨g,.inl (by injection t)⟩
 have bQ:0<ps.length->A=some (Φ g):=λcY=>bR.resolve_right (λt=>O)
 have a1:Hid (∀(a:World)(j:Nat->Prop)(cG:DJ)(s':St),FU cG a pI jb aD d p L s' nK vs l ps false en j (.slice A ps.length c)->g<a.heap.size/\¬j g):=Ac (λa j _ s' an=>by
  rcases bR with t|⟨t,_⟩
  ·exact⟨(an.mlt g (by rw[t];rfl)).2,an.mF g (by rw[t];rfl)⟩
  ·subst t;exact⟨an.box.lt,an.fj⟩)
 have c3:g<w.heap.size:=(a1 _ _ _ _ h).1;refine(callsIn_wide (n:=3)).1 ?_;refine callsIn_of_wp_marks func277 rfl trivial ?_ rfl;simp only[ntmps277,List.size_toArray,List.length_cons,List.length_nil,Nat.reduceAdd,Nat.reduceSub,Array.replicate_succ,Array.replicate_zero,List.push_toArray,List.append_toArray,DR,List.cons_append];gi_wp2_with(refine⟨trivial,?_⟩;gi_at_call 279;refine(callsIn_wide.2 (A0z _ _ _ _)).mono ?_;rintro i w'⟨rfl,rfl⟩);obtain⟨T,aG⟩:=ε ((w.alloc (.cells #[AB jb] 162)).alloc (.cells #[.slice A ps.length c] 226));rw[<-aG];have bM:η w T:=aG▸((Below.refl _ w).alloc (Ae _) _).alloc Θ _;have b7:Cm T w.heap.size 162 [AB jb]:=by rw[aG];exact(χ _ _ Θ).trans (heap_alloc_new _ _)
 have bt:Cm T (w.heap.size+1) 226 [.slice A ps.length c]:=by
  have:=heap_alloc_new (w.alloc (.cells #[AB jb] 162)) (.cells #[.slice A ps.length c] 226);rw[show(w.alloc (.cells #[AB jb] 162)).heap.size=w.heap.size+1 by simp,<-aG]at this;exact this
 have dc:T.heap.size=w.heap.size+2:=by rw[aG];simp
 have bB:=h.below bM;have cC:∀Z(h:Z<ps.length),T.cell? (Δ g (Z*2))=some (.int .u64 (ps[Z].1.toNat:Int))/\T.cell? (Δ g (Z*2+1))=some (.int .u64 (ps[Z].2.toNat:Int)):=λZ bS=>by
  obtain⟨cU,c',a6,_,M⟩:=C9 bB.row;obtain⟨u,al,bi,_,an⟩:=M.2 O;injection a6 with a6 _ _
  rw[bQ O]at a6;subst a6;injection bi with bi
  injection bi with cl cm
  subst cl cm;have bO:=flat_get Ag2 2 (λ_=>rfl) ps Z;refine⟨?_,?_⟩
  ·have:=an (Z*2) O;rw[Du]at this;rw[this];exact bO 0 bS U
  ·have:=an (Z*2+1) O;rw[Du]at this;rw[this];exact bO 1 bS U
 have cb:=Ac cx;have cN:=bt.p1;refine wpIn_rangeFunc_ownH rfl U (gf:=282) (lb:= #[AB (w.heap.size+1)]) rfl trivial (enters_of func282 Γ rfl)
  (encs:=λx:Below' ps.length=> #[.int .i64 (x.1:Int),jI (ps[x.1]'x.2)]) (Kp:=Yz g (w.heap.size+1)) (S:=λb3=>b3=Dl ps.length ps.length) (Sp:=λJ=>J<+:Dl ps.length ps.length) (N:=ps.length) (w0:=T)
  (Asj Fence.wide 2 trivial rfl U (w.heap.size+1) g c A ps O bQ T cN cC O) (λt V=>⟨V.1.trans t.1,V.2.trans t.2⟩) (λa k o cM c7 db t _=>⟨Tv O,Tv O⟩)  mZ (λ_=>rfl)
  (λJ a=>∃b,(∀C,J++C=Dl ps.length ps.length->Le l ps hpl q (Dl ps.length ps.length)=Le l ps hpl b C)/\Aau w pI jb aD d p L nK vs l ps en F (.slice A ps.length c) b a)
  (λi J a=>i=.exit 0/\∃b,(∀C,J++C=Dl ps.length ps.length->Le l ps hpl q (Dl ps.length ps.length)=b)/\Aau w pI jb aD d p L nK vs l ps en F (.slice A ps.length c) b a)
  ?hI ?hIx ⟨q,λC i=>by rw[<-i];rfl,⟨F,bB,mW bM⟩,⟨b7,bt⟩,O⟩
  (λx bg a=>∃B,T.heap.size<=B/\Cm a B 388 [.int .u64 ((ps[x.1]'x.2).1.toNat:Int),.int .u64 ((ps[x.1]'x.2).2.toNat:Int)]/\bg={tmps:= #[AB jb,.int .i64 er,AB w,undef,.int .i64 0,.int .i64 (x.1:Int),AB B,AB jb,AB jb,.pointer (some (Δ jb 5)),.slice A ps.length c,.func (.func 282) #[] #[AB (w.heap.size+1)],.int .i64 (x.1:Int),jI (ps[x.1]'x.2),undef,undef,undef,undef,undef,undef,undef,undef,undef,undef,undef,undef,undef,undef,undef,undef,undef,undef,undef,undef,undef,undef,undef,undef,undef,undef,undef,undef,undef,undef,undef,undef],defers:=[]})
  ?hAx ?assign ?body ?done ?stop
 case hI=>
  rintro J X Y b1⟨b,I,bk⟩aL M;exact⟨b,I,bk.grown O aL M⟩
 case hIx=>
  rintro i J X Y b1⟨cw,b,I,bk⟩aL M;exact⟨cw,b,I,bk.grown O aL M⟩
 case hAx=>
  intro x bg;rintro df X Y b1⟨B,t,V,cn⟩aL M;refine⟨B,t,V.touch (Gi aL) (λi=>?_),cn⟩;obtain⟨_,cM,a7,co⟩:=M B i;obtain⟨o,cp,bA⟩:=Ef V;rw[cp]at a7;injection a7 with a7
  rw[a7,co]at bA;cases bA
 case assign=>
  rintro l0 J x a a4⟨b,I,⟨j,H,D⟩,⟨ah,ar⟩,au⟩W;have cf:=Ac I;have bl:g<a.heap.size:=(a1 _ _ _ _ H).1;unfold jI at W⊢;obtain⟨ca,e,ac,R,am⟩:=lM W H D ah ar;clear W H D ah ar;gi_wp2;have aI:∀o,η a (a.alloc o):=λo=>mZ.alloc (Ae _) _
  exact ca _ _ ((KeepsOthers.alloc _ _).from _) ⟨χ _ _ bl,χ _ _ O⟩ ⟨b,cf,⟨j,e.below (aI _),ac.below (aI _)⟩,⟨R.out.ξ (aI _),am.out.ξ (aI _)⟩,by have:=(aI (.cells #[] 388)).size;simp at this⊢;omega⟩ ⟨a,O,heap_alloc_new _ _,rfl⟩
 case body=>
  rintro l0 J x bg a c9⟨aw,bV⟩⟨b,I,⟨j,H,D⟩,⟨ah,ar⟩,au⟩⟨B,cZ,bj,rfl⟩da;have aa:x.1<l.length:=Bc x.2 hpl;obtain⟨ad,al,bh,cE,c2,cv,cz,b0,Q,de⟩:=H.set.at x.1 aa;have cy:=cb l[x.1] (BO aa);have bx:Hid (∀Q,Kz b ((l[x.1]'aa).key,ps[x.1]'x.2)=(Q,0)->∀C,J++[x]++C=Dl ps.length ps.length->Le l ps hpl q (Dl ps.length ps.length)=Le l ps hpl Q C):=Ac (λQ i C M=>by
   have i:qO l ps hpl b x=(Q,0):=i;rw[I (x::C) (by rw[<-M,Ba];rfl),Le,i,lg Θ])
  have b6:Hid (∀Q aw,Kz b ((l[x.1]'aa).key,ps[x.1]'x.2)=(Q,aw)->aw≠0->∀C,J++[x]++C=Dl ps.length ps.length->Le l ps hpl q (Dl ps.length ps.length)=Q):=Ac (λQ aw i bV C M=>by
   have i:qO l ps hpl b x=(Q,aw):=i;rw[I (x::C) (by rw[<-M,Ba];rfl),Le,i,kX bV])
  have e:=Ac H;have ac:=Ac D;have b2:=bj.c0;have az:=bj.c1;have bs:=ah.c0;obtain⟨R,a0,am⟩:=l9 ah bj ar;by_cases a8:(ps[x.1]'x.2).2=0
  ·rw[a8]at az;have bd:=Ac (bx b (by unfold Kz;rw[kX a8]));replace az:a.cell? (Δ B 1)=some (.int .u64 0):=az;unfold jI;gi_wp2;exact⟨KeepsFrom.refl _ _,⟨rfl,rfl⟩,b,bd,⟨j,e,ac⟩,⟨R,am⟩,au⟩
  ·have a2:Hid (Kz b ((l[x.1]'aa).key,ps[x.1]'x.2)=if(MV b (l[x.1]'aa).key.data.toList (ps[x.1]'x.2).1).2≠0 then MV b (l[x.1]'aa).key.data.toList (ps[x.1]'x.2).1 else((DT (MV b (l[x.1]'aa).key.data.toList (ps[x.1]'x.2).1).1 (Bz (ps[x.1]'x.2).2)).1,0)):=Ac (by unfold Kz;rw[lg a8]);have t1:(((ps[x.1]'x.2).2.toNat:Int)==0)=false:=ζ λi=>a8 (Eb.1 (by simp;omega))
   unfold jI;generalize ps[x.1]'x.2=E at*;generalize l[x.1]'aa=aW at*;have a9:=e.box.c4;have aM:=e.box.c1;unfold EH at aM a9;rw[cE]at a9;have dd:(x.1:Int)<(l.length:Int):=O;have be:=Ac (λa5(k:η a a5)=>As7 (e.ix.below k) (⟨e.box.ξ k,e.fj⟩:Wh a5 jb aD d p nK vs (.slice A ps.length c) false en j) aW.key cy E.1);obtain⟨cP,cD⟩:=ε (MV b aW.key E.1);rw[<-cD]at be a2;have aR:¬j w.heap.size:=e.ix.sys.uQ R U;have bq:¬j B:=e.ix.sys.uQ a0 U;have bp:¬j (w.heap.size+1):=e.ix.sys.uQ am U;have cL:¬j g:=(a1 _ _ _ _ e).2;have bl:g<a.heap.size:=(a1 _ _ _ _ e).1;have cK:¬j ad:=λh=>cz (.inl h)
   have cc:Hid (∀v G,AQ j G a.drew v->AQ j G a v/\(v.cell? (Φ w)=some (AB jb)/\v.cell? (Δ jb 4)=some (.slice (some (Δ ad al)) l.length bh)/\v.cell? (Δ ad (al+x.1*3))=some (.string aW.key)/\v.cell? (Φ B)=some (.int .u64 (E.1.toNat:Int)))):=Ac (λv G bm=>by
    have m:AQ j G a v:=(mW (mX a)).trans bm;have ae:∀u,u<a.heap.size->¬j u->v.heap[u]?=a.heap[u]?:=λu f bo=>m.touch.block u f bo
    exact⟨m,(BQ (ae _ R.lt aR)).trans bs,(BQ (ae _ e.box.lt e.fj)).trans a9,(BQ (ae _ cv cK)).trans b0,(BQ (ae _ a0.lt bq)).trans b2⟩)
   obtain⟨ba,br⟩:=cP;simp only at be a2;gi_wp2;refine NC (S:=(λw'=>w'.cell? (Φ w)=some (AB jb)/\w'.cell? (Δ jb 4)=some (.slice (some (Δ ad al)) l.length bh)/\w'.cell? (Δ ad (al+x.1*3))=some (.string aW.key)/\w'.cell? (Φ B)=some (.int .u64 (E.1.toNat:Int)))) Γ Γ ⟨bs,a9,b0,b2⟩ (λr=>?_);refine Nj 0 (AB jb) r (hy:=λw y=>by obtain⟨s0,s1,ap,bb⟩:=y;go_simp) ?_;refine Nj 1 (AB jb) r (hy:=λw y=>by obtain⟨s0,s1,ap,bb⟩:=y;go_simp) ?_;refine Nj 2 (AB jb) r ?_;refine Nj 3 (.pointer (some (Δ jb 4))) r ?_
   try simp only[Act.put,Au,Ak,Aj,Ah,Aq,Aw]
   refine Nj 4 (.slice (some (Δ ad al)) l.length bh) r (hy:=λw y=>by obtain⟨s0,s1,ap,bb⟩:=y;go_simp) ?_;refine Nj 5 (.int .i64 (x.1:Int)) r ?_;refine Nj 6 (.pointer (some (Δ ad (al+x.1*3)))) r ?_;refine Nj 7 (.pointer (some (Δ ad (al+x.1*3)))) r ?_
   try simp only[Act.put,Au,Ak,Aj,Ah,Aq,Aw]
   refine Nj 8 (.string aW.key) r (hy:=λw y=>by obtain⟨s0,s1,ap,bb⟩:=y;go_simp) ?_;refine Nj 9 (AB B) r ?_;refine Nj 10 (.int .u64 (E.1.toNat:Int)) r (hy:=λw y=>by obtain⟨s0,s1,ap,bb⟩:=y;go_simp) ?_
   try simp only[Act.put,Au,Ak,Aj,Ah,Aq,Aw]
   refine wpAnyH_ready (rs:=[11]) Γ Θ ?_;refine AllReadyH.cons rfl (λa4 W=>?_) AllReadyH.nil;go_simp;go_at_call 280;refine(be _ (mX a)).mono ?_;rintro i v⟨rfl,G,bY,cj⟩;obtain⟨D,ct⟩:=cc v G cj;refine W.out _ _ (ct) (λr=>?_);clear W a4
   try simp only[Act.put,Au,Ak,Aj,Ah,Aq,Aw]
   by_cases bc:br=0
   ·subst bc;have bd:=Ac (bx (DT ba (Bz E.2)).1 (by rw[a2.out,lg Θ]));refine Nj 12 (.bool false) r ?_
    try simp only[Act.put,Au,Ak,Aj,Ah,Aq,Aw]
    refine wpAnyH_done Γ ?_ _;refine⟨nofun,?_⟩;have K:=Ac D;have a3:=Ac bY;have b4:=r.1;have bW:=(e.box.touch D.touch e.fj);have bX:=a0.touch D.touch bq;have aM:=bW.c1;have az:=bX.c1;unfold EH at aM;obtain⟨b9,ch,ci⟩:=l9 bW bX (R.touch K.touch aR);have cH:¬G w.heap.size:=K.out.out R.lt aR;have cJ:¬G B:=K.out.out a0.lt bq;have cI:¬G jb:=K.out.out e.box.lt e.fj;have cA: -9223372036854775808<=Bz E.2/\Bz E.2<=9223372036854775807:=Uc E.2;have cQ:=Ac (λa5(k:η v a5)=>LZ (a3.sys.below k) (Bz E.2) cA);have cd:Hid (∀P ab,AQ G ab v.drew P->AQ G ab v P/\(P.cell? (Φ w)=some (AB jb)/\P.cell? (Δ jb 1)=some (AB p)/\P.cell? (Δ B 1)=some (.int .u64 (E.2.toNat:Int)))):=Ac (λP ab bm=>by
     have m:AQ G ab v P:=(mW (mX v)).trans bm;have ae:∀u,u<v.heap.size->¬G u->P.heap[u]?=v.heap[u]?:=λu f bo=>m.touch.block u f bo
     exact⟨m,(BQ (ae _ ci.lt cH)).trans b4,(BQ (ae _ b9.lt cI)).trans aM,(BQ (ae _ ch.lt cJ)).trans az⟩)
    gi_wp2;refine NC (S:=(λw'=>w'.cell? (Φ w)=some (AB jb)/\w'.cell? (Δ jb 1)=some (AB p)/\w'.cell? (Δ B 1)=some (.int .u64 (E.2.toNat:Int)))) Γ Γ ⟨b4,aM,az⟩ (λr=>?_);refine Nj 0 (AB jb) r (hy:=λw y=>by obtain⟨s0,s1,ap⟩:=y;go_simp) ?_;refine Nj 1 (AB jb) r ?_;refine Nj 2 (.pointer (some (Δ jb 1))) r ?_;refine Nj 3 (AB p) r (hy:=λw y=>by obtain⟨s0,s1,ap⟩:=y;go_simp) ?_
    try simp only[Act.put,Au,Ak,Aj,Ah,Aq,Aw]
    refine Nj 4 (.pointer (some (Δ B 1))) r ?_;refine Nj 5 (.int .u64 (E.2.toNat:Int)) r (hy:=λw y=>by obtain⟨s0,s1,ap⟩:=y;go_simp) ?_;refine Nj 6 (.int .i64 (Bz E.2)) r (hy:=λw y=>by clear y;go_simp;rfl) ?_
    try simp only[Act.put,Au,Ak,Aj,Ah,Aq,Aw]
    refine wpAnyH_ready (rs:=[7]) Γ Θ ?_;refine AllReadyH.cons rfl (λa4 W=>?_) AllReadyH.nil;go_simp;go_at_call 98;refine(cQ _ (mX v)).mono ?_;rintro i P⟨rfl,ab,b5,cs⟩;obtain⟨D,cu⟩:=cd P ab cs;refine W.out _ _ (cu) (λr=>?_);clear W a4
    try simp only[Act.put,Au,Ak,Aj,Ah,Aq,Aw]
    refine wpAnyH_done Γ ?_ _;refine⟨nofun,?_⟩;have ce:=Ac D;have cg:=Ac (a3.move b5 D);gi_wp2;have ao:AQ j ab a P:=K.trans ce;obtain⟨aE,av⟩:=e.move cg ao;exact⟨J9 _ ao.touch (λu f _=>e.ix.sys.cells f),⟨ao.touch.block _ bl cL,ao.touch.block _ am.lt bp⟩,(DT ba (Bz E.2)).1,bd,⟨ab,aE,ac.trans av⟩,⟨R.touch ao.touch aR,am.touch ao.touch bp⟩,AZ au ao.touch.size⟩
   ·have t5:(br==0)=false:=ζ bc;have b8:=Ac (b6 ba br (by rw[a2.out,kX bc]) bc);refine Nj 12 (.bool true) r ?_
    try simp only[Act.put,Au,Ak,Aj,Ah,Aq,Aw]
    refine wpAnyH_done Γ ?_ _;refine⟨nofun,?_⟩;have K:=Ac D;have a3:=Ac bY;gi_wp2;obtain⟨aE,av⟩:=e.move a3 K;exact⟨J9 _ K.touch (λu f _=>e.ix.sys.cells f),rfl,ba,b8,⟨_,aE,ac.trans av⟩,⟨R.touch K.touch aR,am.touch K.touch bp⟩,AZ au K.touch.size⟩
 case' done=>
  rintro aq b3 a cq rfl⟨b,I,⟨j,H,D⟩,⟨ah,ar⟩,au⟩bE;have bw:Hid (Le l ps hpl q (Dl ps.length ps.length)=b):=Ac (I [] (List.append_nil _))
 case' stop=>
  rintro aq i J a cq⟨C,cB⟩⟨rfl,b,I,⟨j,H,D⟩,⟨ah,ar⟩,au⟩bE;have bw:Hid (Le l ps hpl q (Dl ps.length ps.length)=b):=Ac (I C cB)
 all_goals(
  have bs:=ah.p1;have f6:=H.box.frozen 6;have f7:=H.box.frozen 7;have cS:=H.box.c6;have cT:=H.box.c7;unfold EH at cS cT;have e:=Ac H;have ac:=Ac D;gi_wp2;refine wpIn_wide.2 ?_;go_region;have bL:=(KeepsOthers.setCell (a.setCell (Δ jb 6) (.bool true)) (Δ jb 7) (.int .i64 er)).same aq _ ((KeepsOthers.setCell a (Δ jb 6) (.bool true)).same aq _ bE rfl) rfl;gi_wp2;refine⟨by simp,.inl ⟨_,_,rfl,run_takeDeferred bL,?_⟩⟩;refine⟨.int .i64 er,by simp[results,results277,go_sem],rfl,j,?_⟩;rw[bw.out];obtain⟨aE,av⟩:=e.ends er;have bN:=((Dr.drew ((a.setCell (Δ jb 6) (.bool true)).setCell (Δ jb 7) (.int .i64 er))).below ((a.setCell (Δ jb 6) (.bool true)).setCell (Δ jb 7) (.int .i64 er)).heap.size);have cr:((a.setCell (Δ jb 6) (.bool true)).setCell (Δ jb 7) (.int .i64 er)).drew.heap[aq]?=some (.deferred (some [])):=bL;have ck:=(aE.below bN).abide (grownBy_putObj' _ aq (.deferred none)) (λaw i=>by
   cases i
   rintro⟨o,t,V⟩;rw[cr]at t;injection t with t
   rw[<-t]at V;cases V)
  refine⟨ck,((ac.trans av).below bN).touch.trans (Gi (grownBy_putObj' _ aq (.deferred none))) (λu i=>?_),λu f=>((ac.trans av).own u f)⟩;cases i;exact .inr O)
end
section
open Go.RowKit
def kL(s:St)(nK:ni)(y:Wr):writeM ⟨.up (-1),s⟩ nK y=(⟨.up (-1),(H7 s nK y).1⟩,(H7 s nK y).2):=by
 unfold writeM H7;rw[show getD ⟨.up (-1),s⟩ y.key=Ic s y.key from rfl];generalize Ic s y.key=g;obtain⟨v,d⟩:=g;simp only[Anp];generalize NY s ⟨nK,v,y.gone,y.text⟩=b;obtain⟨s1,a,e⟩:=b;simp only[show Wj ⟨.up (-1),s1⟩ y.key a=OG ⟨.up (-1),s1⟩ y.key a from rfl,y9];generalize RZ s1 y.key a=c;obtain⟨j,i⟩:=c;simp only[PU];split
 ·rfl
 split
 ·rfl
 split
 ·rfl
 split<;>rfl
def Akj(s:St)(key:List nC)(v:ni):MV ⟨.up (-1),s⟩ key v=(⟨.up (-1),(QB s key v).1⟩,(QB s key v).2):=by
 unfold MV QB;rw[show Aam ⟨.up (-1),s⟩ key=Iq ⟨.up (-1),s⟩ key from rfl,show Wj ⟨.up (-1),s⟩ key v=OG ⟨.up (-1),s⟩ key v from rfl,yA,y9];split<;>rfl
def ZE:∀(l:List Past)(s:St),QC ⟨.up (-1),s⟩ l=⟨.up (-1),Ou s l⟩
 |[],_=>rfl
 |(b,v,c)::l,s=>by
  rw[QC,Ou];unfold Kz;by_cases h:c=0
  ·simp only[kX h,ne_eq,not_true_eq_false,if_false];exact ZE l s
  ·simp only[lg h,Akj,PU];by_cases a:(QB s b v).2≠0
   ·simp only[kX a]
   ·simp only[lg a,ne_eq,not_true_eq_false,if_false];exact ZE l _
section
variable{w:World}{x d p L:Nat}{q:Ms}{F:Nat->Prop}
def Ae0{X:Nat->Prop}{nJ:List Kv}(g:JQ X L q.s nJ)(r:Rc)(h:(JI q r).2.2=0):(JI q r).2.1≠0:=by
 unfold JI at h⊢;split at h
 ·exact absurd h (show¬(2:Int)=0 by decide)
 rename_i o;rw[lg o];cases e:Ei q.s 1 with
 |none=>rw[e]at h;exact absurd h Θ
 |some p=>
  obtain⟨a,s1⟩:=p;rw[e]at h;obtain⟨i,_,_,_,m,_⟩:=Q7 g.ok (.inl rfl) e;have f:=m.bounds i;have v:=i.sh.Qo;have u:=g.ok.L1;have n:Az a≠0:=λb=>by
   have:=congrArg P9 b;rw[DN O]at this;simp at this;omega
  simp only at h⊢;generalize KG ⟨q.pw,s1⟩ (Nu (a/8) 8) (CQ s1.ws (a/8) (EE r))=j at h⊢;obtain⟨t,l⟩:=j;simp only at h⊢;by_cases c:l=0
  ·simp only[kX c]at h⊢;generalize J6 t (a:Int)=k at h⊢;obtain⟨w,b⟩:=k;simp only at h⊢;by_cases d:b=0
   ·simp only[kX d];exact n
   ·simp only[lg d]at h;exact absurd h d
  ·simp only[lg c]at h;exact absurd h c
def Akk(h:pz w x d p L q F)(al:∀lf,q.pw=.up lf->∃X nJ,JQ X L q.s nJ){jb:Nat}{nK:ni}{vs G:Value}{en:Int}(J:Wh w jb x d p nK vs G false en F)(y:Wr)(hy:D5 y=true):
 Calls prog 276 #[AB jb,OY y] w λe w'=>e=.returned (.tuple #[.agg #[.int .u64 ((writeM q nK y).2.1.toNat:Int),.int .u64 ((writeM q nK y).2.2.1.toNat:Int)],.int .i64 (writeM q nK y).2.2.2])/\
  ∃g,pz w' x d p L (writeM q nK y).1 g/\Wh w' jb x d p nK vs G false en g/\AQ F g w w':=by
 have E:y.key.size<=16/\y.text.size<=40:=by
  unfold D5 at hy;simp only[Bool.and_eq_true,decide_eq_true_eq]at hy;exact⟨hy.1.1,hy.1.2⟩
 have o:=λb(k:η w b)=>A0x (q:=q) (h.below k) y.key E.1
 by_cases V:∃lf,q.pw=.up lf
 ·obtain⟨lf,T⟩:=V;obtain⟨X,nJ,W⟩:=al lf T;have m:getD q y.key=Ic q.s y.key:=by unfold getD;rw[T]
  have ac:∃v e,Ic q.s y.key=(v,e)/\((v=0/\e=7)\/(v≠0/\e=0)):=by
   rcases Z9 W y.key E.1 with⟨v,e,an,K⟩|⟨e,ao⟩
   ·exact⟨v,0,e,.inr ⟨K,rfl⟩⟩
   ·exact⟨0,7,e,.inl ⟨rfl,rfl⟩⟩
  obtain⟨v,e,D,M⟩:=ac;have S:¬(e≠0/\e≠7):=by rcases M with⟨_,rfl⟩|⟨_,rfl⟩<;>decide
  by_cases B:y.gone=true/\v=0
  ·have u:writeM q nK y=(q,0,0,0):=by
    unfold writeM;rw[m,D];simp only;rw[lg S,kX B]
   rw[u];obtain⟨rfl,rfl⟩:=M.resolve_right (λh=>h.1 B.2);rw[m,D]at o;exact qh h J y (.inl ⟨rfl,B.1⟩) o
  ·have C:=λb(k:η w b)=>Ai8 (q:=q) (h.below k).sys ⟨nK,v,y.gone,y.text⟩ (by show y.text.size<=_;omega)
   have hpl:=Ae0 W ⟨nK,v,y.gone,y.text⟩;have u:writeM q nK y=if(JI q ⟨nK,v,y.gone,y.text⟩).2.2≠0 then((JI q ⟨nK,v,y.gone,y.text⟩).1,0,0,(JI q ⟨nK,v,y.gone,y.text⟩).2.2)else
    if(Wj (JI q ⟨nK,v,y.gone,y.text⟩).1 y.key (JI q ⟨nK,v,y.gone,y.text⟩).2.1).2≠0 then((DT (Wj (JI q ⟨nK,v,y.gone,y.text⟩).1 y.key (JI q ⟨nK,v,y.gone,y.text⟩).2.1).1 (Bz (JI q ⟨nK,v,y.gone,y.text⟩).2.1)).1,0,0,(Wj (JI q ⟨nK,v,y.gone,y.text⟩).1 y.key (JI q ⟨nK,v,y.gone,y.text⟩).2.1).2)
    else((Wj (JI q ⟨nK,v,y.gone,y.text⟩).1 y.key (JI q ⟨nK,v,y.gone,y.text⟩).2.1).1,v,(JI q ⟨nK,v,y.gone,y.text⟩).2.1,0):=by
    unfold writeM;rw[m,D];simp only;rw[lg S,lg B]
   unfold yZ at C;rw[u];generalize JI q ⟨nK,v,y.gone,y.text⟩=Y at C hpl⊢;obtain⟨n,a,c⟩:=Y;simp only at C hpl⊢;have r:c=0->∀b Q,KH n.pw.mode b x d p L n.s Q->Calls prog 95 #[AB x,y.key,a] b _:=λA b Q N=>Aur (q:=n) N y.key E.1 a (hpl A)
   unfold N8 at r;generalize Wj n y.key a=Z at r⊢;obtain⟨j,i⟩:=Z;simp only at r⊢;have aa:c=0->i≠0->∀b H,KH j.pw.mode b x d p L j.s H->Calls prog 98 #[AB p,.int .i64 (Bz a)] b λe O=>(∃v,e=.returned v)/\∃R,Fg (DT j (Bz a)).1.pw.mode O d p L (DT j (Bz a)).1.s R/\AQ H R b O:=λ_ _ b H N=>(LZ (q:=j) N.sys (Bz a) (Uc a)).mono λe O l=>⟨⟨_,l.1⟩,l.2⟩
   have am:∀{e:Ending}{w':World},(e=.returned (.tuple #[.agg #[.int .u64 (Yx c i (v.toNat:Int) 0 0),.int .u64 (Yx c i (a.toNat:Int) 0 0)],.int .i64 (Yx c i 0 i c)])/\
    ∃g,KH (Yx c i j.pw.mode (DT j (Bz a)).1.pw.mode n.pw.mode) w' x d p L (Yx c i j.s (DT j (Bz a)).1.s n.s) g/\Wh w' jb x d p nK vs G false en g/\AQ F g w w')->∀t,(t=if c≠0 then(n,0,0,c)else if i≠0 then((DT j (Bz a)).1,0,0,i)else(j,v,a,0))->
    e=.returned (.tuple #[.agg #[t.2.1,t.2.2.1],t.2.2.2])/\∃g,pz w' x d p L t.1 g/\Wh w' jb x d p nK vs G false en g/\AQ F g w w':=λ{e w'}l t ah=>by
    subst ah;by_cases A:c=0
    ·subst A;by_cases I:i=0
     ·subst I;exact l
     ·simp only[PW I]at l;simp only[ne_eq,not_true_eq_false,if_false,kX (show¬i=0 from I)];exact l
    ·simp only[SS A]at l;simp only[ne_eq,kX (show¬c=0 from A)];exact l
   rw[m,D]at o;refine(Ajl h J y E.1 rfl ?_ o C r aa).mono λe w' l=>am l _ rfl
   rcases M with⟨rfl,rfl⟩|⟨K,rfl⟩
   ·refine .inl ⟨rfl,rfl,?_⟩;cases ad:y.gone with
    |false=>rfl
    |true=>exact absurd ⟨ad,rfl⟩ B
   ·exact .inr ⟨rfl,λe=>K (Eb.1 (by simp;omega))⟩
 ·have ab:∃P,q.pw=.down P:=by
   cases ae:q.pw with
   |up lf=>exact absurd ⟨lf,ae⟩ V
   |down P=>exact⟨P,rfl⟩
  obtain⟨P,r⟩:=ab;have m:getD q y.key=(0,12):=by unfold getD;rw[r]
  have u:writeM q nK y=(q,0,0,12):=by
   unfold writeM;rw[m];simp only;rw[kX U]
  rw[u];rw[m]at o;exact qh h J y (e0:=12) (.inr ⟨by decide,by decide⟩) o
end
section
variable{l:List Wr}{ps:List (ni×ni)}{hpl:ps.length<=l.length}{done:List Past}
def ZF:∀(D:List (Below' ps.length))(q:Ms),Le l ps hpl q D=QC q (D.map λx=>((l[x.1]'(Bc x.2 hpl)).key,ps[x.1]'x.2))
 |[],_=>rfl
 |x::D,q=>by
  rw[Le,Ci,QC];unfold qO;rw[ZF D]
def QD(b:ps=done.map Prod.snd)(g:∀a(h:a<done.length)(h2:a<l.length),done[a].1=l[a].key)(q:Ms):Le l ps hpl q (Dl ps.length ps.length)=QC q done.reverse:=by
 have j:ps.length=done.length:=by rw[b];simp
 have e:∀k,k<=ps.length->(Dl ps.length k).map (λx:Below' ps.length=>((l[x.1]'(Bc x.2 hpl)).key,ps[x.1]'x.2))=done.reverse.take k:=λk=>by
  induction k with
  |zero=>intro _;rw[List.take_zero];rfl
  |succ k i=>
   intro h;rw[OO _ _ O,CJ,i O,List.take_succ_eq_append_getElem (by rw[WN];omega)];have c:done.reverse[k]'(by rw[WN];omega)=done[ps.length-1-k]' O:=by
    rw[List.getElem_reverse];congr 1;omega
   have d:ps[ps.length-1-k]' O=(done[ps.length-1-k]' O).2:=by subst b;simp
   rw[c,Ci,List.map_nil];simp only[d,<-g (ps.length-1-k) O O]
 rw[ZF,e _ (Ae _),Dq (by rw[WN];omega)]
end
def nO(l:List Wr)(ps:List (ni×ni))(hpl:ps.length<=l.length)(r:Ms×Int):Ms:=if r.2=0 then r.1 else Le l ps hpl r.1 (Dl ps.length ps.length)
section
variable{w w':World}{pI jb x d p L:Nat}{s:St}{nK:ni}{vs:Value}{l:List Wr}{ps:List (ni×ni)}{over:Bool}{en:Int}{F:Nat->Prop}{v:Value}
def Ao1{a9:DJ}{q:Ms}{er:Int}(ah:er≠0)(h:FU a9 w pI jb x d p L s nK vs l ps false en F v)(hpl:ps.length<=l.length)(E:ps.length<l.length)(aa:l.length<=100000)(am:∀ar∈l,ar.key.size<=16)
 (S:∀u,η w u->Calls prog 276 #[AB jb,OY l[ps.length]] u λi Y=>i=.returned (.tuple #[.agg #[.int .u64 0,.int .u64 0],er])/\
  ∃j,pz Y x d p L q j/\Wh Y jb x d p nK vs v false en j/\AQ F j u Y):
 Calls prog 274 #[AB jb] w λi w'=>i=.returned (.tuple #[true,er])/\
  ∃j,FU (Le l ps hpl q (Dl ps.length ps.length)).pw.mode w' pI jb x d p L (Le l ps hpl q (Dl ps.length ps.length)).s nK vs l ps true er j v/\AQ (JG F jb v) (JG j jb v) w w':=by
 have aI:=Ac aa;have aR:=Ac am;have bl:(er==0)=false:=ζ ah;clear ah;clear am;have Z:=Ac (uO jb _ h.box);have aq:=h.box.c6;have U:=h.box.c5;have T:=h.box.c4;have aG:=Ac h;obtain⟨bb,bg,Q,a4,_⟩:=C9 h.row;obtain⟨ar,ap⟩:=ε (l[ps.length]);obtain⟨bd,bk,be,P,a3,bh,a6,V,W,X⟩:=h.set.at ps.length E;rw[<-ap]at V W X S;obtain⟨k,al⟩:=ε ps.length;obtain⟨n,an⟩:=ε l.length;rw[<-an]at P aa E;rw[<-al]at Q V W X E a4;unfold EH at T U aq;rw[P]at T;rw[Q]at U;have bj:=XH E;have I:=Ac S;unfold OY at I;have bi:=h.box.lt;have H:Hid (¬F w.heap.size):=Ac (λa5=>absurd (h.ix.sys.lt _ a5) O);have aw:Hid (0≠w.heap.size/\1≠w.heap.size):=Ac (Ω h.ix.sys.tabs.lt);have aM:Hid (x≠w.heap.size):=Ac (Ω h.ix.box.lt);clear h S a3 a6 al an ap P Q;go_in;go_wp2_with(refine Z.out.ro ?_);go_region
 all_goals(go_wp2_with fail)
 all_goals(
  go_region_with(go_at_call 276;refine(I _ (by first|exact((Dr.drew w).trans (Dr.drew _)).below _|exact(((Dr.drew w).trans (Dr.drew _)).below _).alloc (Ae _) _|exact(((mX w).alloc (Ae _) _).drew))).mono ?_;rintro i b⟨rfl,m,r,ac,o⟩;try(have t:Cm b w.heap.size 388 [.int .u64 0,.int .u64 0]:=(o.touch.block w.heap.size Θ H).trans (heap_alloc_new _ _);have au:=t.cell 0;have av:=t.cell 1;have a0:=t.frozen 0;have a1:=t.frozen 1;simp only[Af,Ai]at au av)))
 all_goals(
  first
  |(have C:η w _:=((Dr.drew w).trans (Dr.drew _)).below w.heap.size
    have y:AQ F m w b:=(mW C).trans o;obtain⟨e,a⟩:=ε (b.alloc (.cells #[.int .u64 0,.int .u64 0] 388));rw[<-a];have N:η b e:=a▸ mZ.alloc (Ae _) _;have D:Cm e b.heap.size 388 [.int .u64 0,.int .u64 0]:=a▸heap_alloc_new _ _;have K:=r.below N;have J:AQ F m w e:=y.below N;obtain⟨g,B⟩:=ε b.heap.size;rw[<-B]at D⊢;clear C y a N B r ac o)
  |(have C:η w _:=(((Below.refl w.heap.size w).alloc (Ae _) (.cells #[.int .u64 0,.int .u64 0] 388)).drew).drew
    have y:AQ F m w b:=(mW C).trans o;obtain⟨e,a⟩:=ε ((b.setCell (Δ w.heap.size 0) (.int .u64 0)).setCell (Δ w.heap.size 1) (.int .u64 0));rw[<-a];have t6:Touch (·=w.heap.size) b e:=a▸((Touch.refl (·=w.heap.size) b).setCell (p:=Δ w 0) (.inl rfl) _).setCell (p:=Δ w 1) (.inl rfl) _;have D:Cm e w.heap.size 388 [.int .u64 0,.int .u64 0]:=by rw[a];exact(t.Be 0 (.int .u64 0)).Be 1 (.int .u64 0)
    have ao:¬m w.heap.size:=λa2=>(o.own _ a2).elim H (λa7=>absurd a7 Θ)
    have K:pz e x d p L q m:=⟨r.sys.keep t6 (λbc f i=>ao (i▸f)) aw.1 aw.2,r.box.touch t6 aM,r.out⟩;have J:AQ F m w e:=by rw[a];exact(y.set (p:=Δ w 0) (.inr (Ae _)) _).set (p:=Δ w 1) (.inr (Ae _)) _
    obtain⟨g,B⟩:=ε w.heap.size;rw[<-B]at D⊢;clear C y a t6 ao B r ac o t au av a0 a1))
 all_goals(
  obtain⟨M,ae⟩:=aG.move K J;obtain⟨az,aW,R,_,_⟩:=C9 M.row;have G:=Ac (λu(a8:η e u)=>Ag9 (q:=q) (A:=az) (c:=aW) (by rw[<-R];exact M.below a8) hpl aI aR er);rw[<-R]at G;have aL:=Ac ae;clear K J D T U aq V W X I Z H M ae R;go_wp2_with(refine(G.out _  mZ).mono ?_;rintro i bm⟨rfl,aD,ab,ad⟩;have aE:=Ac ab;have ba:=Ac ad;clear ab ad G);go_ret2;exact⟨rfl,aD,aE,aL.trans ba⟩)
def Aav{q:Ms}(h:FU q.pw.mode w pI jb x d p L q.s nK vs l ps false en F v)(H:ps.length=l.length)(U:l.length<=100000)(Y:∀aw∈l,aw.key.size<=16):
 Calls prog 274 #[AB jb] w λc w'=>c=.returned (.tuple #[true,.int .i64 (KG q 3 (DD q.s.ws 8 nK)).2])/\
  ∃N,pz w' x d p L (nO l ps (IZ H) (KG q 3 (DD q.s.ws 8 nK))) N/\AQ (JG F jb v) (JG N jb v) w w':=by
 have aq:=h.ix.sys.pos.2.2.1.fits;have ar:=h.ix.sys.pos.2.2.1.Qo;obtain⟨aD,aE,ab⟩:=h.set.slice;obtain⟨B,ao,I,_,_⟩:=C9 h.row;have am:=Ac (uO jb _ h.box);have ac:=h.box.c6;have C:=h.box.c5;have A:=h.box.c4;have K:=h.box.c3;have J:=h.box.c0;unfold EH at J K A C ac;rw[ab]at A;rw[I,H]at C;obtain⟨P,S,j⟩:=l9 h I (λa(k:η w a)=>Sv (q:=q) (h.ix.sys.below k) 8 nK O);rw[show((8*8:Nat):Int)=64 from rfl]at j;obtain⟨av,aa⟩:=ε (KG q 3 (DD q.s.ws 8 nK));rw[<-aa]at j⊢;obtain⟨i,u⟩:=av;simp only at j⊢;have Q:Hid (∀a,Touch F w a->a.cell? (Φ jb)=some (AB d)/\a.cell? (Δ jb 3)=some (.int .u64 (nK.toNat:Int))):=Ac (λa k=>⟨(h.box.touch k h.fj).cell 0,(h.box.touch k h.fj).cell 3⟩);obtain⟨E,al,an⟩:=l9 H U Y;obtain⟨n,Z⟩:=ε l.length;rw[<-Z]at A C;clear h aq ar ab I aa Z U Y;go_in;go_wp2_with(refine am.out.ro ?_);go_region
 all_goals(go_wp2_with fail)
 all_goals(
  go_region_held3(λw'=>w'.cell? (Φ jb)=some (AB d)/\w'.cell? (Δ jb 3)=some (.int .u64 (nK.toNat:Int)))
   (first|exact⟨J,K⟩|exact Q _ r.touch)
   ((first|(go_at_call 169;refine(j _ (((Dr.drew w).trans (Dr.drew _)).below _)).mono ?_;rintro c e⟨rfl,o,X,M⟩;have r:AQ F o w e:=(mW (((Dr.drew w).trans (Dr.drew _)).below _)).trans M))))
 all_goals(
  obtain⟨g,G⟩:=P.move (m1:=i.pw.mode) (s':=i.s) (P.ix.move X r) r;have b:=Ac g;have R:=Ac G;clear r M X j Q J K A C ac;by_cases y:u=0
  ·subst y;have ap:=g.box.c6;have f6:=g.box.frozen 6;unfold EH at ap;clear g G;go_wp2;go_ret2;have t:Touch (·=jb) e (e.setCell (Δ jb 6) (.bool true)):=(Touch.refl (·=jb) e).setCell (p:=Δ jb 6) (.inl rfl) _;have m:AQ (JG o jb v) (JG o jb v) e (e.setCell (Δ jb 6) (.bool true)):=⟨t.mono (λT c=>.inr (.inl c)),λT=>.inl⟩;exact⟨rfl,o,by rw[show nO l ps (IZ E.out) (i,0)=i from kX rfl];exact⟨b.ix.sys.keep t (λT f c=>b.fj (c▸f)) b.gj.1 b.gj.2,b.ix.box.touch t b.xj,b.ix.out⟩,R.trans m⟩
  ·have aG:(u==0)=false:=ζ y;have ah:=Ac y;have D:=Ac (λa(au:η e a)=>Ag9 (q:=i) (A:=B) (c:=ao) (by rw[<-S.out];exact g.below au) (IZ E.out) al.out an u);rw[<-S.out]at D;clear g G y;go_wp2_with(refine(D.out _  mZ).mono ?_;rintro c aI⟨rfl,ad,V,W⟩;have ae:=Ac V;have az:=Ac W;clear V W D);go_ret2;exact⟨rfl,ad,by rw[show nO l ps (IZ E.out) (i,u)=_ from lg ah.out];exact ae.ix,R.trans az⟩)
end
def YA(l:List Wr)(done:List Past):Prop:=∀a(_:a<done.length)(_:a<l.length),done[a].1=l[a].key
def YA.app{l:List Wr}{done:List Past}(h:YA l done)(e:done.length<l.length)(v q:ni):YA l (done++[(l[done.length].key,v,q)]):=λa c d=>by
 by_cases b:a<done.length
 ·rw[List.getElem_append_left b];exact h a b d
 ·obtain rfl:a=done.length:=by simp at c;omega
  simp
structure Ao2(L:Nat)(s0:St)(nJ:List Kv)(ch:List nC->List Lk)(nK:ni)(G:ni->List Kv->(List nC->List Lk)->Prop):Prop where
 dU:∀dn it c,Hist L nJ ch nK dn it c->G (s0.ws 8) it c
 put:∀dn it c k(o:Nat)v g t its,Hist L nJ ch nK dn it c->Tc it its k (Az o)->G (s0.ws 8) its (FV c k ⟨o,⟨nK,v,g,t⟩⟩)
 oV:∀dn it c,Hist L nJ ch nK dn it c->G nK it c
def Upd(l0:Int)(L:Nat)(s0:St)(G:ni->List Kv->(List nC->List Lk)->Prop)(q:Ms)(R:St->Prop):Prop:=
 (∃lf,(l0= -1->lf= -1)/\q.pw=.up lf/\R q.s)\/(l0≠ -1/\Dn (Found L s0 G) q)
def Akl(l0:Int)(L:Nat)(s0:St)(nJ:List Kv)(ch:List nC->List Lk)(nK:ni)(l:List Wr)(G:ni->List Kv->(List nC->List Lk)->Prop)(q:Ms)(ps:List (ni×ni)):Prop:=
 Upd l0 L s0 G q (λs=>∃j:Aos,j.s=s/\j.done.map Prod.snd=ps/\Ag8 L s0 nJ ch nK l j/\YA l j.done)
def Um(L:Nat)(s0:St)(nJ:List Kv)(ch:List nC->List Lk)(nK:ni)(c:Int)(s':St):Prop:=
 (c=6/\CX L s' nJ ch/\Po s0 s')\/
 (c=0/\s'.ws 8=nK/\s'.sh=s0.sh/\(∀a,a<16->a≠8->a≠9->s'.ws a=s0.ws a)/\∃b c,CX L s' b c/\∀k,∀d∈c k,d.rc.nK.toNat<=nK.toNat)
def Ae1(q:Ms)(nK:ni)(y:Wr)(h:(writeM q nK y).2.2.2≠0):(writeM q nK y).2.1=0/\(writeM q nK y).2.2.1=0:=by
 unfold writeM at h⊢;generalize getD q y.key=g at h⊢;obtain⟨v,l⟩:=g;simp only at h⊢;generalize JI q ⟨nK,v,y.gone,y.text⟩=a at h⊢;obtain⟨k,j,m⟩:=a;simp only at h⊢;generalize Wj k y.key j=b at h⊢;obtain⟨o,n⟩:=b;simp only at h⊢;split
 ·exact⟨rfl,rfl⟩
 split
 ·exact⟨rfl,rfl⟩
 split
 ·exact⟨rfl,rfl⟩
 split
 ·exact⟨rfl,rfl⟩
 ·rename_i c d e i;rw[lg c,lg d,lg e,lg i]at h;exact absurd rfl h
section
variable{l0:Int}{L:Nat}{s0:St}{nJ:List Kv}{ch:List nC->List Lk}{nK:ni}{l:List Wr}{G:ni->List Kv->(List nC->List Lk)->Prop}{q:Ms}{ps:List (ni×ni)}
def Aaw{Good:(Nat->ni)->Prop}(h:Dn Good q)(hpl:ps.length<=l.length):Le l ps hpl q (Dl ps.length ps.length)=q:=by
 rw[ZF];exact kJ _ h
def Dn.found{s:St}(h:Dn (Found L s G) q)(a:Po s0 s):Dn (Found L s0 G) q:=
 h.mono λws' b=>b.from a.1 (λj c=>a.2 j O O)
def kM(aa:Akl l0 L s0 nJ ch nK l G q ps)(n:Ao2 L s0 nJ ch nK G)(ad:ps.length<l.length)(M:∀y∈l,D5 y=true)(ao:QY l)(w:nK.toNat≠0)(P:∀k,∀y∈ch k,y.rc.nK.toNat<nK.toNat){y:Wr}(hy:y=l[ps.length]):
 ((writeM q nK y).2.2.2=0->Akl l0 L s0 nJ ch nK l G (writeM q nK y).1 (ps++[((writeM q nK y).2.1,(writeM q nK y).2.2.1)]))/\
 ((writeM q nK y).2.2.2≠0->∀hpl:ps.length<=l.length,Upd l0 L s0 G (Le l ps hpl (writeM q nK y).1 (Dl ps.length ps.length)) (Um L s0 nJ ch nK (writeM q nK y).2.2.2)):=by
 have S:D5 y=true:=M y (hy▸BO ad);have i:l0≠ -1->Dn (Found L s0 G) (writeM q nK y).1->((writeM q nK y).2.2.2=0->Akl l0 L s0 nJ ch nK l G (writeM q nK y).1 (ps++[((writeM q nK y).2.1,(writeM q nK y).2.2.1)]))/\
  ((writeM q nK y).2.2.2≠0->∀hpl:ps.length<=l.length,Upd l0 L s0 G (Le l ps hpl (writeM q nK y).1 (Dl ps.length ps.length)) (Um L s0 nJ ch nK (writeM q nK y).2.2.2)):=λa b=>
  ⟨λ_=>.inr ⟨a,b⟩,λ_ hpl=>.inr ⟨a,by rw[Aaw b hpl];exact b⟩⟩
 rcases aa with⟨lf,ab,Q,j,F,al,K,H⟩|⟨a,b⟩
 ·obtain⟨az,s⟩:=q;simp only at Q F;subst Q F al;have aw:(j.done.map Prod.snd).length=j.done.length:=by simp
  have t:j.done.length<l.length:=O;have A:y=l[j.done.length]:=by rw[hy];congr 1
  have g:=step_ok K M ao w P;have ae:=K;obtain⟨⟨ap,C,p,N,Z,av⟩,r,_,am,_⟩:=ae;have D:j.s.ws 8=s0.ws 8:=r.2 8 U U;have B:∀x∈C (CO y.key),x.rc.nK.toNat<nK.toNat:=λau T=>by
   rw[Z j.done.length (Ae _) y (by rw[A];exact Ag t)]at T;exact P _ au T
  unfold Pz at g;rw[lg (by rw[am];decide),Ag t]at g;simp only[<-A]at g;have ar:(∃d,(l0= -1->d= -1)/\writeM ⟨.up lf,j.s⟩ nK y=(⟨.up d,(H7 j.s nK y).1⟩,(H7 j.s nK y).2))\/(l0≠ -1/\Dn (Found L s0 G) (writeM ⟨.up lf,j.s⟩ nK y).1):=by
   by_cases e:l0= -1
   ·rw[ab e];exact .inl ⟨-1,λ_=>rfl,kL _ _ _⟩
   ·rcases Akc N.y nK y S w B lf (G:=G) (by rw[D];exact n.dU _ _ _ p) (λo v its ah=>by rw[D];exact n.put _ _ _ _ _ _ _ _ _ p ah)with⟨d,V⟩|b
    ·exact .inl ⟨d,λc=>absurd c e,V⟩
    ·exact .inr ⟨e,b.found r⟩
  rcases ar with⟨d,I,Y⟩|⟨a,b⟩
  ·rw[Y];refine⟨λa=>?_,λa hpl=>?_⟩
   ·simp only at a⊢;rw[lg (by rw[a];simp)]at g;rcases g with⟨_,_,_,u⟩|⟨_,c,_⟩|⟨c,_⟩
    ·refine .inl ⟨d,I,rfl,_,rfl,?_,u,?_⟩
     ·simp
     ·show YA l (j.done++[(y.key,_,_)]);rw[A];exact H.app t _ _
    ·cases c
    ·omega
   ·simp only at a⊢;rw[kX a]at g;rcases g with⟨_,c,_⟩|⟨_,c,_,u,ac⟩|⟨c,_⟩
    ·cases c
    ·simp only[Prod.mk.injEq,true_and]at c;have R:=kE N nK y S w B;rw[QD rfl H];rcases R.2 with⟨_,an⟩|⟨m,_⟩|⟨_,_,_,m,_⟩
     ·have J:Po s0 (H7 j.s nK y).1:=r.trans R.1;have E:Um L s0 nJ ch nK (H7 j.s nK y).2.2.2 (Ou (H7 j.s nK y).1 j.done.reverse):=.inl ⟨c,u,ac⟩;by_cases e:l0= -1
      ·rw[I e,ZE];exact .inl ⟨-1,λ_=>rfl,rfl,E⟩
      ·rcases Aoz p d an (G:=G) (λi ap C b=>by rw[J.2 8 U U];exact n.dU _ _ _ b)with⟨aq,W⟩|b
       ·rw[W];exact .inl ⟨aq,λX=>absurd X e,rfl,E⟩
       ·exact .inr ⟨e,b.found J⟩
     ·rw[m]at a;exact absurd rfl a
     ·rw[m]at a;exact absurd rfl a
    ·omega
  ·exact i a b
 ·refine i a ?_;rw[Aow b];exact b
def Akm(F:Akl l0 L s0 nJ ch nK l G q ps)(n:Ao2 L s0 nJ ch nK G)(d:ps.length=l.length)(K:∀i∈l,D5 i=true)(Q:QY l)(N:nK.toNat≠0)(P:∀k,∀i∈ch k,i.rc.nK.toNat<nK.toNat):
 Upd l0 L s0 G (nO l ps (IZ d) (KG q 3 (DD q.s.ws 8 nK))) (Um L s0 nJ ch nK (KG q 3 (DD q.s.ws 8 nK)).2):=by
 have m:Dn (Found L s0 G) (KG q 3 (DD q.s.ws 8 nK)).1->Dn (Found L s0 G) (nO l ps (IZ d) (KG q 3 (DD q.s.ws 8 nK))):=λa=>by
  unfold nO;split
  ·exact a
  ·rw[Aaw a];exact a
 rcases F with⟨lf,I,w,j,r,J,u,S⟩|⟨D,a⟩
 ·obtain⟨W,s⟩:=q;simp only at w r;subst w r J;have T:j.done.length=l.length:=by simpa using d
  have g:=step_ok u K Q N P;obtain⟨⟨V,R,p,v,_,_⟩,t,_,M,_⟩:=u;unfold Pz at g;rw[lg (by rw[M];decide),List.getElem?_eq_none O]at g;have E:j.s.ws 8=s0.ws 8:=t.2 8 U U;rcases g with⟨e,_⟩|⟨e,_⟩|⟨_,_,_,y,A,B,C⟩
  ·omega
  ·omega
  have o:∀b,(l0= -1->b= -1)->KG ⟨.up lf,j.s⟩ 3 (DD j.s.ws 8 nK)=(⟨.up b,{j.s with ws:=DD j.s.ws 8 nK}⟩,0)->Upd l0 L s0 G (nO l (j.done.map Prod.snd) (IZ d) (KG ⟨.up lf,j.s⟩ 3 (DD j.s.ws 8 nK))) (Um L s0 nJ ch nK (KG ⟨.up lf,j.s⟩ 3 (DD j.s.ws 8 nK)).2):=λb H c=>by
   rw[c];refine .inl ⟨b,H,?_⟩;unfold nO;rw[kX rfl];exact⟨rfl,.inr ⟨rfl,y,A,B,C⟩⟩
  by_cases c:l0= -1
  ·refine o (-1) (λ_=>rfl) ?_;rw[I c];exact QU _ _ _
  ·rcases VK (lf:=lf) (s:=j.s) (Good:=Found L j.s G) 8 nK (Tf v.y (by rw[E];exact n.dU _ _ _ p)) (Aey v.y nK (n.oV _ _ _ p))with⟨b,x⟩|a
   ·exact o b (λe=>absurd e c) x
   ·exact .inr ⟨c,m (a.found t)⟩
 ·exact .inr ⟨D,m (jX a 3 _)⟩
end
