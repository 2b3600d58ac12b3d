import Derived.Test.YtekhjimghoibfaaGreatDoorI28
set_option linter.defProp false
set_option maxHeartbeats 32000000
set_option maxRecDepth 100000
open Int renaming ofNat->BZ
open List renaming nodup_nil->UE,length_append->AY,length_cons->BD,length_nil->Dp,map_map->Io,map_congr_left->GG,map_append->Dc,append_assoc->AV,nodup_append->CJ,mem_append_right->Bj,mem_map->BM,mem_append->AL,mem_append_left->BJ,length_map->BX,mem_singleton->BG,map_cons->Ci,mem_cons->Ea,length->UF,takeWhile_cons->JM,mem_cons_self->BA,getElem_of_mem->Cm,pairwise_iff_getElem->Hz,drop_eq_getElem_cons->EO,getElem_mem->BH,range->DW,length_filter_le->Nr,getElem?_map->CB,getElem?_eq_getElem->Ae
open Nat renaming le_refl->Ad,lt_of_not_le->cZ,zero_le->BB,lt_irrefl->Y9,le_trans->Bi
open UInt64 renaming ofNat->Aj
open Go.Lib renaming hid->Aa
open Go.World renaming iterSeen->Ai5
namespace Go.Proofs.YtekhjimghoibfaaGreatDoor
open Go.Proofs.Tryz
structure Vtd(s:St)(ahead:List UInt8)(name:UInt64)(a b:List Kv×List Int)(items:List Kv)(blocks:List Nat):Prop where
 tree:DV s (32-ahead.length) name items blocks
 its:b.1=a.1++items.map λkv=>(pairs (ahead++kv.1),kv.2)
 met:b.2=a.2++blocks.map BZ
 once:blocks.Nodup
 new:∀o∈blocks,(o:Int)∉a.2
 keys:∀kv∈items,J8 (ahead++kv.1)=true/\kv.2≠0
 deep:ahead.length<=32
 taken:∀o∈blocks,∃d,AO s o d
 few:items.length<=blocks.length
def ja{s:St}{ahead pre:List UInt8}{g:List Kv×List Int->UInt8×UInt64->Option (List Kv×List Int)}
 (z:∀b u i,g b u=some i->∃items n,Vtd s (ahead++pre++[u.1]) u.2 b i items n):∀(k:List UInt8)(m:List UInt64),k.length=m.length->∀b i,(k.zip m).foldlM g b=some i->
 ∃parts:List Part,parts.length=m.length/\(∀f(h1:f<m.length)(h2:f<parts.length),DV s (32-ahead.length-pre.length-1) m[f] parts[f].items parts[f].blocks)/\
  i.1=b.1++(Bl pre k parts).map (λa=>(pairs (ahead++a.1),a.2))/\i.2=b.2++(AX parts).map BZ/\(AX parts).Nodup/\(∀l∈AX parts,(l:Int)∉b.2)/\
  (∀a∈Bl pre k parts,J8 (ahead++a.1)=true/\a.2≠0)/\(m≠[]->ahead.length+pre.length+1<=32)/\(∀l∈AX parts,∃d,AO s l d)/\(Bl pre k parts).length<=(AX parts).length
 |[],[],_,b,i,h=>by
  injection h with h
  subst h;exact⟨[],rfl,λf h1=>absurd h1 (Nat.not_lt_zero _),by simp[Bl],by simp[AX],UE,(λ_ h=>nomatch h),(λ_ h=>nomatch h),λh=>absurd rfl h,(λ_ h=>nomatch h),Ad _⟩
 |[],_::_,h,_,_,_=>by simp at h
 |_::_,[],h,_,_,_=>by simp at h
 |o::k,A::m,K,b,i,h=>by
  rw[List.zip_cons_cons,List.foldlM_cons]at h;cases r:g b (o,A)with
  |none=>rw[r]at h;cases h
  |some w=>
   rw[r]at h;obtain⟨items,n,e⟩:=z b (o,A) w r;obtain⟨t,C,D,E,F,G,y,H,R,I,Q⟩:=ja z k m (by simpa using K) w i h;have J:=e.deep;simp only[AY,BD,Dp]at J;have p:AX (⟨items,n⟩::t)=n++AX t:=by simp[AX]
   have v:Bl pre (o::k) (⟨items,n⟩::t)=Fa pre o items++Bl pre k t:=rfl;have M:(Fa pre o items).map (λa=>(pairs (ahead++a.1),a.2))=items.map λa=>(pairs (ahead++pre++[o]++a.1),a.2):=by
    unfold Fa;rw[Io];refine GG λa _=>?_
    simp
   refine⟨⟨items,n⟩::t,by simp[C],λf h1 h2=>?_,?_,?_,?_,?_,?_,λ_=>O,?_,?_⟩
   ·cases f with
    |zero=>
     have:=e.tree;simp only[AY,BD,Dp]at this;rw[show 32-(ahead.length+pre.length+1)=32-ahead.length-pre.length-1 by omega]at this;exact this
    |succ f=>exact D f (by simpa using h1) (by simpa using h2)
   ·rw[E,e.its,v,Dc,M,AV]
   ·rw[F,e.met,p,Dc,AV]
   ·rw[p,CJ];refine⟨e.once,G,λx r u N B=>?_⟩;subst B;refine y x N ?_;rw[e.met];exact Bj _ (BM.2 ⟨x,r,rfl⟩)
   ·rw[p];intro l c;rcases AL.1 c with c|c
    ·exact e.new l c
    ·intro L;refine y l c ?_;rw[e.met];exact BJ _ L
   ·rw[v];intro a q;rcases AL.1 q with q|q
    ·obtain⟨P,h1,rfl⟩:=BM.1 q;have:=e.keys P h1;simpa using this
    ·exact H a q
   ·rw[p];intro l c;rcases AL.1 c with c|c
    ·exact e.taken l c
    ·exact I l c
   ·rw[p,v];have:=e.few;simp only[AY,Fa,BX];omega
def bH{L:Nat}{s:St}(v:Bq L s):∀(f:Nat)(d:UInt64)(ahead:List UInt8)(a b:List Kv×List Int),Eb s f d ahead a=some b->∃items x,Vtd s ahead d a b items x
 |0,_,_,_,_,h=>by unfold Eb at h;cases h
 |f+1,d,ahead,(Q,u),b,h=>by
  unfold Eb at h;cases l:FN s d with
  |none=>rw[l]at h;cases h
  |some c=>
   rw[l]at h;simp only at h;obtain⟨R,r,M,J,_⟩:=Ii v l;have K:=((Bv c).1 J).2.2.1;split at h
   ·cases h
   ·rename_i q;split at h
    ·cases h
    ·rename_i G;obtain⟨parts,y,z,A,B,C,o,D,E,F,N⟩:=ja (s:=s) (ahead:=ahead) (pre:=c.pre) (λa w b h=>bH v f w.2 (ahead++c.pre++[w.1]) a b h) c.labels c.kids K _ _ h;have P:ahead.length+c.pre.length<=32:=by
      have:¬32<(ahead++c.pre).length:=λh=>q (.inr h)
      rw[AY]at this;omega
     have H:Bg d∉u:=λk=>q (.inl (by simpa using k))
     have n:((Bg d).toNat:Int)=Bg d:=by rw[r];rfl
     have I:∀i∈Cc c,J8 (ahead++i.1)=true/\i.2≠0:=λi e=>by
      unfold Cc at e;split at e
      ·rename_i t;rw[BG]at e;subst e;refine⟨?_,t⟩;cases m:J8 (ahead++c.pre)with
       |true=>rfl
       |false=>exact absurd ⟨t,m⟩ G
      ·cases e
     refine⟨_,_,DV.mk _ d c parts l O (λm=>Ω (E m)) y z,?_,?_,?_,?_,?_,O,?_,?_⟩
     ·rw[A,Dc,<-AV];congr 1;unfold Cc;split<;>simp
     ·rw[B,Ci,AV];show _=u++((Bg d).toNat:Int)::_;rw[n];rfl
     ·refine List.nodup_cons.2 ⟨λk=>o _ k ?_,C⟩;rw[n];exact Bj _ (BG.2 rfl)
     ·intro p g;rcases Ea.1 g with rfl|g
      ·rw[n];exact H
      ·exact λk=>o p g (BJ _ k)
     ·intro i e;exact(AL.1 e).elim (I i) (D i)
     ·intro p g;rcases Ea.1 g with rfl|g
      ·rw[r];exact⟨_,M⟩
      ·exact F p g
     ·rw[AY,BD];have:(Cc c).length<=1:=by unfold Cc;split<;>simp
      omega
section
variable{L:Nat}{s:St}
def Aer(m:Bq L s)(p:∀a d,¬Eo s a d){n:List (List UInt8×UInt64)}{o:List Int}(h:DZ s=some (n,o)):
 ∃(items:List Kv)(b:List Nat),n=items.map (λe=>(pairs e.1,e.2))/\o=b.map BZ/\b.Nodup/\(∀a∈b,∃d,AO s a d)/\items.length<=b.length/\(∀e∈items,e.2≠0)/\
  ∀f:Nat->Prop,(∀a∈b,¬f a)->(∀a,(∃d,AO s a d)<->a∈b\/f a)->IW f L s items:=by
 unfold DZ at h;split at h
 ·rename_i g;injection h with h
  injection h with i k
  exact⟨[],[],i.symm,k.symm,UE,(λ_ h=>nomatch h),Ad _,(λ_ h=>nomatch h),λf _ q=>⟨m,p,.inl ⟨g,rfl,λa=>by simpa using q a⟩,(λ_ h=>nomatch h)⟩⟩
 ·rename_i g;obtain⟨items,b,c⟩:=bH m _ _ _ _ _ h;exact⟨items,b,by simpa using c.its,by simpa using c.met,c.once,c.taken,c.few,λe l=>(c.keys e l).2,λf i k=>⟨m,p,.inr ⟨b,g,c.tree,c.once,i,k⟩,λe l=>(c.keys e l).1⟩⟩
def Air(a:Bq L s){v:UInt64}{o c:Nat}(e:Bg v=o)(h:AO s o c):v=Aj o:=by
 have j:=h.bounds a;have b:=a.sh.KT;have d:=a.L1;have f:=v.toNat_lt;unfold Bg at e;have:v.toNat=o:=by
  simp only[IntKind.wrap,IntKind.bits,IntKind.signed,Bool.true_and]at e;split at e<;>omega
 rw[<-this];simp
def bI(i:Bq L s):∀(f:Nat)(v:UInt64)(d r:List Lk),OZ s f v d=some r->∃a,r=d++a/\Dh s v a/\∀c∈a,c.rc.stamp.toNat<EL d
 |0,_,_,_,h=>by unfold OZ at h;cases h
 |f+1,v,d,r,h=>by
  unfold OZ at h;split at h
  ·rename_i p;injection h with h
   have x:v=0:=UInt64.toNat_inj.1 (by simpa using p);exact⟨[],by rw[h];simp,x▸.nil,(λ_ h=>nomatch h)⟩
  ·split at h
   ·cases h
   ·rename_i q;have t:DC s (Bg v)=1:=Classical.not_not.1 q;obtain⟨g,m,o⟩:=RY i t U;rw[m,Int.toNat_natCast]at h;cases e:Lt (wordsAt s.ws (g/8) 8)with
    |none=>rw[e]at h;cases h
    |some k=>
     rw[e]at h;simp only at h;split at h
     ·cases h
     ·rename_i l;obtain⟨a,w,u,n⟩:=bI i f k.next _ _ h;obtain⟨d1,d2,_⟩:=vK e;refine⟨⟨g,k⟩::a,by rw[w,AV];rfl,?_,λc b=>?_⟩
      ·rw[Air i m o];refine .cons g k a o d1 d2.symm u λc b=>?_
       have:=n c b
       rwa [GL]at this
      ·rcases Ea.1 b with rfl|b
       ·exact cZ l
       ·have:=n c b;rw[GL]at this;exact Nat.lt_trans this (cZ l)
def uu(c:Bq L s){v:UInt64}{l:List Lk}(h:Lu s v=some l):Dh s v l:=by
 obtain⟨d,a,b,_⟩:=bI c _ _ _ _ h;rw[List.nil_append]at a;exact a▸b
def Apl{X:Nat->Prop}{items:List Kv}(h:IW X L s items){b:Kv}(a:b∈items):b.1.length<=32:=by
 rcases h.tree with⟨_,d,_⟩|⟨_,_,c,_⟩
 ·rw[d]at a;cases a
 ·exact(c.nib h.ok b a).2.1
def Apm{X:Nat->Prop}{items:List Kv}(h:IW X L s items):items.length<=(En s).length:=by
 obtain⟨l,f,_⟩:=Sz h;obtain⟨IX,b,c,_,d,e,k,_⟩:=Aer h.ok h.nh f;have g:=congrArg UF c;rw[BX,BX]at g;have:=JS b (En s) d (λa i=>(Lc h.ok a).2 (e a i));omega
end
def newer(slot:Nat)(x:Lk):Bool:=decide (slot<x.rc.stamp.toNat)
def Am3{a:Type}(p:a->Bool):∀(l:List a),(l.takeWhile p).length<=l.length
 |[]=>Ad _
 |b::l=>by
  rw[JM];split
  ·simpa using Am3 p l
  ·simp
def Abc{slot:Nat}:∀{l:List Lk},(∀b∈l,b.rc.stamp.toNat<=slot)->(l.takeWhile (newer slot)).length=0
 |[],_=>rfl
 |a::l,h=>by
  have:newer slot a=false:=decide_eq_false (Ω (h a (BA ..)));rw[JM,this];rfl
def Am4{d:Type}{p:d->Bool}:∀(l:List d)(a:Nat),a<=(l.takeWhile p).length->∀h:a<l.length,(p l[a]=true<->a<(l.takeWhile p).length)
 |c::l,0,_,_=>by
  rw[JM];show p c=true<->_;by_cases h:p c=true
  ·rw[if_pos h];simp[h]
  ·rw[if_neg h];simp[h]
 |c::l,a+1,b,h=>by
  rw[JM]at b⊢;split at b
  ·rename_i e;rw[if_pos e];simpa using Am4 l a (by simpa using b) (by simpa using h)
  ·simp at b
def Y7{a:Type}(p:a->Bool):∀(l:List a),l.dropWhile p=l.drop (l.takeWhile p).length
 |[]=>rfl
 |b::l=>by
  rw[JM,List.dropWhile_cons];split
  ·simpa using Y7 p l
  ·rfl
def bkC(slot:Nat)(ch:List UInt8->List Lk)(a:List (List UInt8))(k:List UInt8):List Lk:=if k∈a then(ch k).dropWhile (newer slot)else ch k
def bJ{s:St}{v:UInt64}{x:Lk}{a:List Lk}(h:Dh s v (x::a)):v=Aj x.off.toNat:=by cases h;rfl
def QJ{s:St}{l:List Lk}:∀(a:List Lk){v:UInt64},Dh s v (a++l)->∃c,Dh s c l
 |[],v,h=>⟨v,h⟩
 |x::a,v,h=>by
  cases h with
  |cons d e _ _ _ _ b _=>exact QJ a b
section
variable{Y:Nat->Prop}{L:Nat}{s s1:St}{items IX:List Kv}{ch:List UInt8->List Lk}
def bK(h:D5 Y L s items ch){f:Kv}(w:f∈items){a b:List Lk}(F:ch f.1=a++b){z:List UInt8->List Lk}(u:z f.1=b)(A:∀o,o≠f.1->z o=ch o)
 (hi:∀d,d∈IX<->(d∈items/\d.1≠f.1)\/(d.1=f.1/\∃x m,b=x::m/\d.2=Aj x.off.toNat))
 (I:Ij (λe=>(∃f∈items,e∈Dz (ch f.1))\/Y e) s s1)(U:IW (λe=>(∃f∈items,e∈Dz (ch f.1))\/Y e) L s1 IX):
 D5 (λe=>Y e\/e∈Dz a) L s1 IX z:=by
 have r:Dz (ch f.1)=Dz a++Dz b:=by rw[F];unfold Dz;rw[Dc]
 obtain⟨D,X⟩:=h.chain f w;have G:=D.nodup.1;rw[r]at G;obtain⟨_,_,J⟩:=CJ.1 G;have E:∀x m,b=x::m->(f.1,Aj x.off.toNat)∈IX:=λx m g=>(hi _).2 (.inr ⟨rfl,x,m,g,rfl⟩)
 have B:∀d∈IX,∃t∈items,t.1=d.1/\∀e∈Dz (z d.1),e∈Dz (ch t.1):=λd k=>by
  rcases(hi d).1 k with⟨i,n⟩|⟨i,_⟩
  ·exact⟨d,i,rfl,λe c=>by rw[A _ n]at c;exact c⟩
  ·refine⟨f,w,i.symm,λe c=>?_⟩;rw[i,u]at c;rw[r];exact Bj _ c
 refine⟨U.congr λe=>⟨?_,?_⟩,λd k=>?_,λo v=>?_,λd k t T R e c S=>?_,λd k e c l=>?_⟩
 ·rintro(⟨d,k,c⟩|l)
  ·by_cases g:d.1=f.1
   ·rw[g,r]at c;rcases AL.1 c with c|c
    ·exact .inr (.inr c)
    ·cases j:b with
     |nil=>rw[j]at c;cases c
     |cons x m=>exact .inl ⟨_,E x m j,by rw[u];exact c⟩
   ·exact .inl ⟨d,(hi d).2 (.inl ⟨k,g⟩),by rw[A _ g];exact c⟩
  ·exact .inr (.inl l)
 ·rintro(⟨d,k,c⟩|l|c)
  ·obtain⟨t,i,_,q⟩:=B d k;exact .inl ⟨t,i,q e c⟩
  ·exact .inr l
  ·exact .inl ⟨f,w,by rw[r];exact BJ _ c⟩
 ·rcases(hi d).1 k with⟨i,n⟩|⟨i,x,m,j,n⟩
  ·rw[A _ n];obtain⟨M,N⟩:=h.chain d i;exact⟨M.keep I.keep (λe c=>.inl ⟨d,i,c⟩),N⟩
  ·rw[i,u,n];rw[F]at D;obtain⟨W,y⟩:=QJ a D;have v:Dh s1 W b:=y.keep I.keep (λe c=>.inl ⟨f,w,by rw[r];exact Bj _ c⟩);rw[j]at y v⊢;have g:=bJ y;rw[<-g];refine⟨v,λK=>?_⟩;rw[K]at y;exact absurd (chain_nil y h.ix.ok) Θ
 ·by_cases g:o=f.1
  ·rw[g,u];cases j:b with
   |nil=>rfl
   |cons x m=>exact absurd g.symm (v (f.1,Aj x.off.toNat) (E x m j))
  ·rw[A o g];exact h.none o λd k H=>v d ((hi d).2 (.inl ⟨k,λC=>g (H▸C)⟩)) H
 ·obtain⟨p,i,n,q⟩:=B d k;obtain⟨V,O,P,Q⟩:=B t T;exact h.TT p i V O (λg=>R (n▸P▸g)) e (q e c) (Q e S)
 ·obtain⟨p,i,n,q⟩:=B d k;rcases l with l|l
  ·exact h.loose p i e (q e c) l
  ·by_cases g:d.1=f.1
   ·rw[g,u]at c;exact J e l e c rfl
   ·exact h.TT p i f w (λC=>g (n▸C)) e (q e c) (by rw[r];exact BJ _ l)
def QK(slot:Nat)(L:Nat)(s0:St)(items:List Kv)(ch:List UInt8->List Lk)(k:Nat)(s:St):Prop:=
 MC s0 s/\((∀c,∀e∈ch c,e.rc.stamp.toNat<=slot)->s=s0)/\∃b a,D5 b L s a (bkC slot ch ((items.take k).map (·.1)))/\∀d∈items.drop k,d∈a
def Alz{slot k:Nat}(m:yC items)(d:k<items.length):(bkC slot ch ((items.take k).map (·.1)) items[k].1=ch items[k].1)/\(bkC slot ch ((items.take (k+1)).map (·.1)) items[k].1=(ch items[k].1).dropWhile (newer slot))/\
 ∀a,a≠items[k].1->bkC slot ch ((items.take (k+1)).map (·.1)) a=bkC slot ch ((items.take k).map (·.1)) a:=by
 have g:items[k].1∉(items.take k).map (·.1):=λb=>by
  obtain⟨o,l,c⟩:=BM.1 b;obtain⟨n,f,rfl⟩:=Cm l;rw[List.length_take]at f;rw[List.getElem_take]at c;have:=Hz.1 m n k O d O;rw[c,EU]at this;cases this
 have b:∀x,x∈(items.take (k+1)).map (·.1)<->x∈(items.take k).map (·.1)\/x=items[k].1:=λx=>by
  rw[List.take_succ_eq_append_getElem d,Dc,AL];simp
 unfold bkC;refine⟨if_neg g,if_pos ((b _).2 (.inr rfl)),λa i=>?_⟩;have:a∈(items.take (k+1)).map (·.1)<->a∈(items.take k).map (·.1):=by rw[b];exact⟨λh=>h.resolve_right i,.inl⟩
 by_cases h:a∈(items.take k).map (·.1)
 ·rw[if_pos h,if_pos (this.2 h)]
 ·rw[if_neg h,if_neg (λe=>h (this.1 e))]
def Ais{k:Nat}(b:k<items.length){q:Kv}(h:q∈items.drop (k+1))(d:yC items):q∈items.drop k/\q.1≠items[k].1:=by
 rw[EO b];refine⟨List.mem_cons_of_mem _ h,λa=>?_⟩;obtain⟨e,c,rfl⟩:=Cm h;rw[List.length_drop]at c;rw[List.getElem_drop]at a;have:=Hz.1 d k (k+1+e) b O O;rw[a,EU]at this;cases this
def Aes(S:yC items){s0:St}{slot k:Nat}(E:k<items.length)(h:QK slot L s0 items ch k s)(X:J8 items[k].1=true)(ad:items[k].1.length<=32):
 ∃e,e=ch items[k].1/\Lu s items[k].2=some e/\e≠[]/\
  ((e.takeWhile (newer slot)).length=0->QK slot L s0 items ch (k+1) s)/\
  ((e.takeWhile (newer slot)).length=e.length->(QX s (pairs items[k].1)).2.2=0/\QK slot L s0 items ch (k+1) (QX s (pairs items[k].1)).1)/\
  (∀h:(e.takeWhile (newer slot)).length<e.length,0<(e.takeWhile (newer slot)).length->(JD s (pairs items[k].1) (Aj e[(e.takeWhile (newer slot)).length].off.toNat)).2=0/\QK slot L s0 items ch (k+1) (JD s (pairs items[k].1) (Aj e[(e.takeWhile (newer slot)).length].off.toNat)).1):=by
 obtain⟨F,Y,U,T,i,t⟩:=h;obtain⟨r,v,w⟩:=Alz (slot:=slot) (ch:=ch) S E;have p:items[k]∈T:=t _ (by rw[EO E];exact BA ..);obtain⟨m,Z⟩:=i.chain _ p;rw[r]at m;have K:=aJ m Z;have M:CG (pairs items[k].1)=items[k].1:=by
  obtain⟨B,C⟩:=S9 X;exact YG _ B C
 have N:(pairs items[k].1).length<=16:=by rw[NI];omega
 have I:=λd(g:d∈items.drop (k+1))=>Ais E g S
 generalize items[k]=c at*;refine⟨ch c.1,rfl,m.listed i.ix.ok,K,λl=>?_,λl=>?_,λl al=>?_⟩
 ·have W:bkC slot ch ((items.take (k+1)).map (·.1))=bkC slot ch ((items.take k).map (·.1)):=funext λx=>by
   by_cases f:x=c.1
   ·rw[f,r,v,Y7,l];rfl
   ·exact w x f
  exact⟨F,Y,U,T,W▸i,λd g=>t d (by rw[show items.drop (k+1)=(items.drop k).drop 1 by rw[List.drop_drop]]at g;exact List.mem_of_mem_drop g)⟩
 ·have o:(ch c.1).dropWhile (newer slot)=[]:=by rw[Y7,l,List.drop_length]
  have J:=lF i.ix (pairs c.1) N;rw[M]at J;rcases J with⟨_,G⟩|⟨q,f,af,IX,u,hcut⟩
  ·exact absurd rfl (G _ p)
  ·refine⟨by rw[f],F.trans q.Ah1,λD=>absurd (List.eq_nil_of_length_eq_zero (l.symm.trans (Abc (D c.1)))) K,_,IX,bK i p (a:=ch c.1) (b:=[]) (by rw[r];simp) (by rw[v,o]) w (λd=>?_) q u,λd g=>?_⟩
   ·rw[hcut d];exact⟨.inl,λh=>h.elim id λh=>by obtain⟨_,x,ac,f,_⟩:=h;cases f⟩
   ·obtain⟨z,A⟩:=I d g;exact(hcut d).2 ⟨t d z,A⟩
 ·obtain⟨n,ah⟩:=ε (((ch c.1).takeWhile (newer slot)).length);have R:ch c.1=(ch c.1).takeWhile (newer slot)++(ch c.1).dropWhile (newer slot):=List.takeWhile_append_dropWhile.symm;have o:(ch c.1).dropWhile (newer slot)=(ch c.1)[((ch c.1).takeWhile (newer slot)).length]::(ch c.1).drop (((ch c.1).takeWhile (newer slot)).length+1):=by rw[Y7,<-EO l]
  obtain⟨x,ab⟩:=ε ((ch c.1)[((ch c.1).takeWhile (newer slot)).length]);rw[<-ab]at o⊢;have aa:Aj x.off.toNat≠0:=λV=>by
   rw[R,o]at m;obtain⟨am,H⟩:=QJ _ m;rw[bJ H,V]at H;exact absurd (chain_nil H i.ix.ok) Θ
  obtain⟨q,P⟩:=WY i.ix (pairs c.1) N (Aj x.off.toNat) aa;rw[M]at P;rcases P with⟨_,_,G⟩|⟨f,IX,u,Q⟩
  ·exact absurd rfl (G _ p)
  ·refine⟨f,F.trans q.Ah1,λD=>absurd (Abc (D c.1)) O,_,IX,bK i p (a:=(ch c.1).takeWhile (newer slot)) (b:=(ch c.1).dropWhile (newer slot)) (by rw[r];exact R) v w (λd=>?_) q u,λd g=>?_⟩
   ·rw[Q d,o];constructor
    ·rintro(rfl|h)
     ·exact .inr ⟨rfl,x,_,rfl,rfl⟩
     ·exact .inl h
    ·rintro(h|⟨B,an,ac,y,C⟩)
     ·exact .inr h
     ·injection y with y _
      subst y;exact .inl (Prod.ext B C)
   ·obtain⟨z,A⟩:=I d g;exact(Q d).2 (.inr ⟨t d z,A⟩)
end
open Go.RowKit
def Al0(o:Int)(a:0<=o)(h1:o<18446744073709551616):IntKind.u64.wrap o=((Aj o.toNat).toNat:Int):=by
 rw[show(Aj o.toNat).toNat=o.toNat%2^64 from by simp,Nat.mod_eq_of_lt O];simp only[IntKind.wrap,IntKind.bits,IntKind.signed,Bool.false_and,Bool.false_eq_true,if_false];omega
def Dh.Apn{L:Nat}{s:St}(b:Bq L s){v:UInt64}{l:List Lk}(h:Dh s v l):∀k∈l,0<=k.off/\k.off<65537:=by
 induction h with
 |nil=>intro _ h;cases h
 |cons o r l c _ _ _ _ d=>
  intro k a;rcases Ea.1 a with rfl|a
  ·have:=(c.bounds b).2.1;have:=b.L1;show 0<=(o:Int)/\(o:Int)<65537;omega
  ·exact d k a
section
variable{w w':World}{x d p L:Nat}{s:St}{F Y:Nat->Prop}{items:List Kv}{ch:List UInt8->List Lk}
def Aet(h:Ix w x d p L s F)(t:D5 Y L s items ch)(slot:UInt64):
 Calls prog 28 #[Az d,Az p,Az x,.int .u64 (slot.toNat:Int)] w λr w'=>r=.returned (.int .i64 0)/\∃bR a0,Ix w' x d p L bR a0/\QK slot.toNat L s items ch items.length bR/\AP F a0 w w':=by
 obtain⟨cU,bw,_⟩:=Sz t.ix;have bT:=Aa (Tf h);have cd:=Aa h;have b8:=Aa bw;have ce:Hid (∀ao,F ao->ao<w.heap.size):=Aa h.sys.lt;have cc:=Aa t.ix.up;have b6:=Aa t.ix.even;have a5:Hid (∀f∈items,f.1.length<=32):=Aa (λf cp=>Apl t.ix cp);have a1:Hid (QK slot.toNat L s items ch 0 s):=Aa ⟨MC.refl _,λ_=>rfl,Y,items,t,λ_ h=>h⟩;obtain⟨n,bp⟩:=ε items.length;have Z:=Aa bp;have cP:n<=65537:=by
  have:=Apm t.ix;have:=Aa3 t.ix.ok;omega
 clear h t bw bp;go_enter func28,ntmps28
 go_wp2_with fail
 refine bT.out.mono ?_;rintro r cC⟨ar,o⟩;rw[b8.out]at o;obtain⟨cW,rfl,aB,cr⟩:=o;obtain⟨aH,cI,rfl,cj,br⟩:=DR aB;have a2:=Aa ar;have a9:Hid (Jo cC F aH ((items.map λf=>(pairs f.1,f.2)).length*2) (((items.map λf=>(pairs f.1,f.2)).map itV).flatten)):=Aa ⟨br,λ_ v aq H=>by
  have:=(zo aB v aq).1;have:=ce.out _ H;omega⟩
 have ba:=Aa (cd.out.below ar);rw[BX,<-Z.out];clear bT aB ar br cj cr
 go_wp2_with fail
 go_loopw [26](λz wr=>∃(b:Nat)(q:St)(m:Nat->Prop),b<=n/\z=.int .i64 (b:Nat)/\Ix wr x d p L q m/\QK slot.toNat L s items ch b q/\AP F m w wr/\Jo wr m aH ((items.map λf=>(pairs f.1,f.2)).length*2) (((items.map λf=>(pairs f.1,f.2)).map itV).flatten))(λz _=>n-(intOf z).toNat)
 case atStart=>exact⟨0,s,F,BB _,rfl,ba.out,a1.out,AP.of_below a2.out,a9.out⟩
 case round=>
  obtain⟨b,q,m,cN,rfl,bE,bg,bo,bs⟩:=hrel;have B:=Aa bE;have al:=Aa bg;have X:=Aa bo;have ab:=Aa bs;clear bE bg bo bs ba a9 a2 a1;by_cases bl:b<n
  ·have I:b<items.length:=Ω Z.out;obtain⟨ao,cV,rfl,cM,bN,bO⟩:=zq ab.out.1 b (by rw[BX];exact I);rw[List.getElem_map]at bN bO;obtain⟨cT,cv,cw⟩:=YB bl;have cS:=jh b O;obtain⟨c,_,T,aM,aD,R,bt⟩:=Aes cc.out I al.out (b6.out _ (BH I)) (a5.out _ (BH I));have ct:(pairs items[b].1).length<=16:=by rw[NI];have:=a5.out _ (BH I);omega
   have b7:Hid (∀bW∈c,0<=bW.off/\bW.off<65537):=Aa (by
    obtain⟨_,_,_,_,bx,_⟩:=al.out;exact(uu bx.ix.ok T).Apn bx.ix.ok)
   obtain⟨i,J⟩:=ε ((c.takeWhile (newer slot.toNat)).length);have cs:i<=c.length:=by rw[J];exact Am3 _ c
   have cb:Hid (∀a,a<=i->∀h:a<c.length,(newer slot.toNat c[a]=true<->a<i)):=Aa (by rw[J];exact Am4 c);rw[<-J]at aD R;have bb:Hid (∀h:i<c.length,0<i->(JD q (pairs items[b].1) (Aj c[i].off.toNat)).2=0/\QK slot.toNat L s items ch (b+1) (JD q (pairs items[b].1) (Aj c[i].off.toNat)).1):=Aa (by subst J;exact bt);obtain⟨l,bk⟩:=ε (pairs items[b].1);obtain⟨bV,bA⟩:=ε (items[b].2);rw[<-bk]at bN R bb ct;rw[<-bA]at bO T;have b9:=Aa aD;have ca:=Aa R;have a7:=Aa T;have cq:0<c.length:=List.length_pos_iff.2 aM;obtain⟨cY,bB,av,be⟩:=Fz wr 103 [.string ⟨l.toArray⟩,.int .u64 (bV.toNat:Int)];have a3:=Aa av;have b4:=Aa be;have bd:=Aa (SV (B.out.below av).sys bV);have cB:=Aa bB;clear aD R bt T aM J bk bA bB av be
   go_wp2_with fail
   rw[<-cB.out];refine bd.out.mono ?_;rintro r u⟨aw,bq⟩;rw[a7.out]at bq;obtain⟨bc,cX,rfl,ah⟩:=bq;have cl:=bc.few;obtain⟨b2,cJ,rfl,ck,bL⟩:=Vs ah;have cx:=Aa bL;have b3:Hid (∀v,b2=some v->¬m v.block/\v.block<u.heap.size):=Aa (λv aq=>by
    obtain⟨cL,ci⟩:=zo ah v aq;refine⟨λH=>?_,ci⟩;have:=B.out.sys.lt _ H;have:=a3.out.size;omega)
   have af:=Aa (τ a3.out aw);have S:=b4.out.ξ aw;obtain⟨cg,cK⟩:=S.p2;have b5:Hid (∀g,Touch m u g->g.cell? (Φ wr.heap.size)=some (.string ⟨l.toArray⟩)):=Aa (λg b=>by
    have:=(b.block wr.heap.size S.lt (λH=>Y9 _ (B.out.sys.lt _ H))).trans S;exact CQ.cell (w:=g) this 0)
   have aR:=B.out.below af.out;have ac:=Aa aR;have am:=Aa (X.out.trans (AP.of_below af.out));have U:=Aa (ab.out.below af.out);obtain⟨P,V⟩:=ε c.length;have A:=Aa V;rw[<-V]at cl cq cs⊢;clear bd ah aw bL bc ck S a7 aR X ab B V
   go_wp2_with fail
   go_loopw [15](λz cE=>∃a:Nat,a<=i/\z=.int .i64 (a:Nat)/\cE=u)(λz _=>P-(intOf z).toNat)
   case atStart=>exact⟨0,BB _,rfl,rfl⟩
   case round=>
    obtain⟨a,cm,rfl,r⟩:=hrel;obtain rfl:=r.symm;by_cases bj:a<P
    ·obtain⟨ap,aL,rfl,cf,aG,cH,bX,b0,b1⟩:=cx.out.at a (Ω A.out);have D:=cb.out a cm (Ω A.out);have Q:=Aa (λ(r:a=i)=>bb.out (Ω A.out));have N:=b7.out _ (BH (show a<c.length by have:=A.out;omega));obtain⟨c0,cF,cG⟩:=YB bj;have cR:=jh a O;obtain⟨e,az⟩:=ε (c[a]'(Ω A.out));rw[<-az]at aG cH bX b0 b1 D N;have a6:=Aa az;clear az bX b0 b1;by_cases bi:a<i
     ·have K:slot.toNat<e.rc.stamp.toNat:=by have:=D.2 bi;unfold newer at this;simpa using this
      have t1:decide ((slot.toNat:Int)<(e.rc.stamp.toNat:Int))=true:=decide_eq_true O;have t2:decide (slot.toNat<e.rc.stamp.toNat)=true:=decide_eq_true K;generalize e.rc.stamp=bS at*;clear D N Q
      go_wp2_with fail
      go_roundw
      case rel=>exact⟨a+1,O,by go_num,by trivial⟩
      case measure=>simp[intOf];omega
     ·have y:a=i:=O;have K:¬slot.toNat<e.rc.stamp.toNat:=λh=>bi (D.1 (by unfold newer;simpa using h))
      have t1:decide ((slot.toNat:Int)<(e.rc.stamp.toNat:Int))=false:=decide_eq_false O;have t2:decide (slot.toNat<e.rc.stamp.toNat)=false:=decide_eq_false K;by_cases cn:a=0
      ·subst cn;have E:=Aa (b9.out y.symm);generalize e.rc.stamp=bS at*;clear D N Q K y
       go_wp2_with fail
       go_roundw
       case rel=>exact⟨b+1,q,m,O,by go_num,ac.out,E.out,am.out,U.out⟩
       case measure=>simp[intOf];omega
      ·have t3:((a:Int)==0)=false:=ζ O;have t4:((a:Int)==(P:Int))=false:=ζ O;have cQ:=Al0 e.off N.1 O;obtain⟨C,o⟩:=Q.out y O;have bh:c[i]'(Ω A.out)=e:=by rw[a6.out];congr 1;exact y.symm
       rw[bh]at C o;have a8:Hid (∀g,η u g->_):=Aa (λg b=>gZ (ac.out.below b) ⟨l.toArray⟩ (by show l.toArray.size<=1000;simp;omega) (Aj e.off.toNat));have cA:Hid (∀g,Touch m u g->g.cell? (Φ wr.heap.size)=some (.string ⟨l.toArray⟩)/\g.cell? (Δ ap (aL+a*5))=some (.int .i64 e.off)):=Aa (λg b=>⟨b5.out g b,(World.cell?_of_block (b.block ap cf (b3.out _ rfl).1)).trans aG⟩);have E:=Aa o;have aE:=Aa C;generalize e.rc.stamp=bS at*;generalize Aj e.off.toNat=cz at*;generalize e.off=cy at*;clear D N Q K y C o bh a6
       go_wp2_with fail
       go_region_held3(λw'=>w'.cell? (Φ wr.heap.size)=some (.string ⟨l.toArray⟩)/\w'.cell? (Δ ap (aL+a*5))=some (.int .i64 cy))
        (first|exact⟨cg,aG⟩|exact cA.out _ ((AP.of_below ((Dr.drew u).below _)).trans k).touch)
        ((first|(go_at_call 60;refine(a8.out _ ((Dr.drew u).below _)).mono ?_;rintro r cD⟨rfl,W,M,k⟩)))
       replace k:=(AP.of_below ((Dr.drew u).below _)).trans k;have G:(JD q (⟨l.toArray⟩:ByteArray).data.toList cz).2=0:=aE.out;rw[G];have ad:=Aa M;have an:=Aa (am.out.trans k);have aa:=Aa (U.out.moved k);clear a8 M k G
       go_wp2_with fail
       go_roundw
       case rel=>exact⟨b+1,_,W,O,by go_num,ad.out,E.out,an.out,aa.out⟩
       case measure=>simp[intOf];omega
    ·have y:a=P:=O;have bm:i=c.length:=Ω A.out;obtain⟨cF,cG⟩:=uH bj;have t3:((a:Int)==0)=false:=ζ O;have t4:((a:Int)==(P:Int))=true:=by simp;omega
     obtain⟨C,o⟩:=ca.out bm;have a4:=Aa (Ali ac.out ⟨l.toArray⟩ (by show l.toArray.size<=1000;simp;omega));have E:=Aa o;have aE:=Aa C;clear C o y bm
     go_wp2_with fail
     refine a4.out.mono ?_;rintro r cD⟨rfl,W,M,k⟩;have G:(QX q (⟨l.toArray⟩:ByteArray).data.toList).2.2=0:=aE.out;rw[G];have ad:=Aa M;have an:=Aa (am.out.trans k);have aa:=Aa (U.out.moved k);clear a4 M k G
     go_wp2_with fail
     go_roundw
     case rel=>exact⟨b+1,_,W,O,by go_num,ad.out,E.out,an.out,aa.out⟩
     case measure=>simp[intOf];omega
  ·obtain⟨cv,cw⟩:=uH bl;have co:b=items.length:=Ω Z.out;subst co
   go_wp2_with fail
   go_ret;exact⟨rfl,q,m,B.out,al.out,X.out⟩
end
section
variable{L:Nat}{sh:Sh}{ws:Nat->UInt64}
end
def Ait{slot L:Nat}{s0 s:St}{items:List Kv}{ch:List UInt8->List Lk}(h:QK slot L s0 items ch items.length s)(l:∀a,(∀d∈items,d.1≠a)->ch a=[]):MC s0 s/\∃b c,D5 b L s c (λa=>(ch a).dropWhile (newer slot)):=by
 obtain⟨g,_,b,c,i,_⟩:=h;refine⟨g,b,c,?_⟩;have:bkC slot ch ((items.take items.length).map (·.1))=λa=>(ch a).dropWhile (newer slot):=funext λa=>by
  unfold bkC;split
  ·rfl
  ·rename_i e;rw[List.take_length]at e;rw[l a (λd k f=>e (BM.2 ⟨d,k,f⟩))];rfl
 exact this▸i
section
variable{w:World}{d L:Nat}{ws:Nat->UInt64}{own Y:Nat->Prop}{sh:Sh}{items:List Kv}{ch:List UInt8->List Lk}
end
def Aeu(a:List Int)(A B:Option Addr)(c d:Nat)(w:World)(x:a.length<=100000)(m:Rd w A a.length (U9 a))(j:Rd w B a.length (U9 a)):
 Calls prog 30 #[.slice A a.length c,.slice B a.length d] w λv w'=>v=.returned (.bool true)/\Dr w w':=by
 have k:=Aa m;have l:=Aa j;obtain⟨n,g⟩:=ε a.length;have s:=Aa g;rw[<-g]at x k l⊢;have t2:((n:Int)!=(n:Int))=false:=by simp
 clear m j g;go_enter func30,ntmps30
 go_wp2_with fail
 go_loopw [13](λi wr=>∃b:Nat,b<=n/\i=.int .i64 (b:Nat)/\Dr w wr)(λi _=>n-(intOf i).toNat)
 case atStart=>exact⟨0,BB _,rfl,Dr.refl _⟩
 case round=>
  obtain⟨b,E,rfl,o⟩:=hrel;have e:=Aa o;clear o;by_cases f:b<n
  ·have p:b<a.length:=Ω s.out;obtain⟨t,C,rfl,_,q⟩:=(Rd.below k.out (e.out.below _)).2 O;obtain⟨u,D,rfl,_,r⟩:=(Rd.below l.out (e.out.below _)).2 O;have H:wr.cell? (Δ t (C+b))=some (.int .i64 a[b]):=by rw[q b f];simp[U9,p]
   have I:wr.cell? (Δ u (D+b))=some (.int .i64 a[b]):=by rw[r b f];simp[U9,p]
   obtain⟨G,y,z⟩:=YB f;have F:=jh b O;have t3:(a[b]!=a[b])=false:=by simp
   clear q r;generalize a[b]=J at*
   go_wp2_with fail
   go_quiet(fail)
   go_wp2_with fail
   go_roundw
   case rel=>exact⟨b+1,O,by go_num,by first|exact e.out.trans (Dr.one _ _)|exact e.out⟩
   case measure=>simp[intOf];omega
  ·obtain⟨y,z⟩:=uH f
   go_wp2_with fail
   go_ret;exact⟨rfl,e.out⟩
section
variable{w:World}{d p L:Nat}{s:St}{tb j n cT cH:Nat}
def MH(s:St)(i:Nat):Nat:=((DW i).map λi=>(IZ (hdN s i)).length).sum
def XW(s:St)(i:Nat):MH s (i+1)=MH s i+(IZ (hdN s i)).length:=by simp[MH,List.range_succ]
def jc(s:St):∀a,MH s a<=16*a
 |0=>by simp[MH]
 |a+1=>by
  rw[XW];have:=jc s a;have:(IZ (hdN s a)).length<=16:=Bi (Nr _ _) (by simp[GI]);omega
def Aev(h:Ig w d p L s tb j n cT cH)(u:s.hd.length=n):Calls prog 31 #[Az p] w λc w'=>c=.returned (.int .i64 (nT s:Nat))/\η w w':=by
 have f:=Aa (Gy h);have q:=Aa h;have R:=h.y6;have C:n<=64:=Ξ h.ok.fits h.L1 h.bV;have k:nT s=MH s n:=by unfold nT MH;rw[u]
 rw[k];clear h k;go_enter func31,ntmps31
 go_wp2_with fail
 refine f.out.mono ?_;rintro c P⟨rfl,rfl⟩;clear f
 go_wp2_with fail
 go_loopw [3,13](λA e wr=>∃a:Nat,a<=n/\e=.int .i64 (a:Nat)/\A=.int .i64 (MH s a:Nat)/\η w wr)(λ_ e _=>n-(intOf e).toNat)
 case atStart=>exact⟨0,BB _,rfl,rfl,Below.refl _ _⟩
 case round=>
  obtain⟨a,F,rfl,rfl,j⟩:=hrel;have b:=Aa j;clear j;by_cases m:a<n
  ·obtain⟨K,y,z⟩:=YB m;have I:IntKind.i64.wrap ((a:Int)+1)=(a:Int)+1:=wrap64 _ O O;have S:=(q.out.below b.out).hd a m;have v:=Kr s a;have g:=Aa (gV (hdN s a) wr v);have r:Hid (MH s (a+1)=MH s a+(IZ (hdN s a)).length):=Aa (XW s a);have G:=jc s a;have H:(IZ (hdN s a)).length<=16:=Bi (Nr _ _) (by simp[GI]);have J:IntKind.i64.wrap ((MH s a:Int)+((IZ (hdN s a)).length:Int))=(MH s a:Int)+((IZ (hdN s a)).length:Int):=wrap64 _ O O;generalize IZ (hdN s a)=M at*;generalize hdN s a=x at*;generalize MH s a=D at*
   go_wp2_with fail
   refine g.out.mono ?_;rintro c Q⟨N,rfl,i,l⟩;obtain⟨B,E,rfl,_,_⟩:=Aa2 i;have o:=Aa (τ b.out l);clear i l g
   go_wp2_with fail
   go_roundw
   case rel=>exact⟨a+1,O,by go_num,by rw[r.out];go_num,o.out⟩
   case measure=>simp[intOf];omega
  ·have t:a=n:=O;subst t;have y:decide ((a:Int)<(a:Int))=false:=decide_eq_false O;have z:decide (a<a)=false:=decide_eq_false O
   go_wp2_with fail
   go_ret;exact⟨rfl,b.out⟩
end
def zx{X:Nat->Prop}{L:Nat}{s:St}{items:List Kv}(h:IW X L s items):nT s=0:=by
 unfold nT;have:(DW s.hd.length).map (λa=>(IZ (hdN s a)).length)=(DW s.hd.length).map (λ_=>0):=GG λa b=>by
  rw[List.mem_range,h.ok.mX]at b;have:IZ (hdN s a)=[]:=by
   rw[List.eq_nil_iff_forall_not_mem];intro c e;exact h.nh _ _ ⟨a,c,b,(Qa (h.ok.hd a b)).1 e,rfl,rfl⟩
  rw[this];rfl
 rw[this];generalize DW s.hd.length=d;induction d with
 |nil=>rfl
 |cons c d f=>rw[Ci,List.sum_cons,f]
section
variable{w:World}{x d p L:Nat}{s:St}{F:Nat->Prop}{items:List Kv}{ch:List UInt8->List Lk}
def Al1(h:Ix w x d p L s F):∃tb j n cT cH,Ig w d p L s tb j n cT cH:=by
 obtain⟨tb,j,n,cT,cH,own,h,_⟩:=h.sys;exact⟨tb,j,n,cT,cH,h.at⟩
def Apr(h:Ix w x d p L s F)(c:Ce L s items ch):Calls prog 31 #[Az p] w λa w'=>a=.returned (.int .i64 0)/\η w w':=by
 obtain⟨tb,j,n,cT,cH,b⟩:=Al1 h;refine(Aev b (by rw[c.ix.ok.mX];have:=b.bV;omega)).mono ?_;rintro a e⟨rfl,j⟩;rw[zx c.ix];exact⟨rfl,j⟩
def Al2(s:St)(a:It):List Lk:=(Lu s a.v).getD []
def Al3(h:Ix w x d p L s F)(m:Ce L s items ch):Calls prog 32 #[wV d p x] w λi w'=>∃g e,i=.returned (.tuple #[.map (some g),.bool true])/\XR w' g w.heap.size e/\w.heap.size<=g/\
 e.map (λt=>(t.1,t.2.l))=items.map (λc=>((dY c).k,ch c.1))/\(e.map (·.1)).Nodup/\η w w':=by
 have q:∀c∈items,Lu s (dY c).v=some (ch c.1):=λc f=>(m.chain c f).1.listed m.ix.ok
 have B:=Aow m.ix;have r:(items.map dY).Pairwise (λa b=>a.k≠b.k):=B.imp (λ{a b}n i=>by
  unfold Agw at n;rw[i,EU]at n;cases n)
 refine(Alp h (Aov m.ix) (Al2 s) (λC y=>by
  obtain⟨c,f,rfl⟩:=BM.1 y;unfold Al2;rw[q c f];rfl) r).mono ?_
 rintro i w'⟨g,e,rfl,z,A,o,j⟩;refine⟨g,e,rfl,z,A,?_,?_,j⟩
 ·rw[o,Io];refine GG λc f=>?_
  show((dY c).k,Al2 s (dY c))=_;unfold Al2;rw[q c f];rfl
 ·have u:e.map (·.1)=(items.map dY).map (·.k):=by
   have:=congrArg (List.map Prod.fst) o;simpa[Io,Function.comp_def]using this
  rw[u];exact List.pairwise_map.2 r
end
def Aiu{w:World}{x d p L:Nat}{s:St}{F:Nat->Prop}{items:List Kv}{ch:List UInt8->List Lk}(h:Ix w x d p L s F)(r:Ce L s items ch)(bg:∀ad,∀bt∈ch ad,bt.rc.stamp.toNat<=(s.ws 8).toNat):
 Calls prog 13 #[Az d,.agg #[Az p,Az x,.int .u64 ((s.ws 8).toNat:Int)]] w λe w'=>e=.returned (.bool true)/\η w w':=by
 obtain⟨cj,ck,bm,bi,_,bj,bk,af,bl,_⟩:=aW r;obtain⟨br,ac,R,ap⟩:=Fz w 45 [Az p,Az x,.int .u64 ((s.ws 8).toNat:Int)];obtain⟨n,ab⟩:=ε ((En s).length);have bd:bm.length=n:=by rw[<-KJ bm,af,BX,ab]
 have ci:n<=100000:=O;have Q:=MG (h.below R) bi bj bk bl;rw[bd,af]at Q;have aG:=Aa Q;have aL:=Aa h;have aH:=Aa r;have aD:=Aa ab;have bV:Hid (∀k∈items,∃i A,ch k.1=i::A/\i.rc.stamp.toNat<=(s.ws 8).toNat):=Aa (λk b6=>by
  obtain⟨b3,cc⟩:=r.chain k b6;cases t:ch k.1 with
  |nil=>exact absurd t (aJ b3 cc)
  |cons i A=>exact⟨i,A,rfl,bg k.1 i (by rw[t];exact BA ..)⟩)
 have bN:Hid (8<8*L):=Aa (Ξ r.ix.ok.sh.fits r.ix.ok.sh.KT r.ix.ok.sh.BQ);have J:=Aa R;have bL:=Aa ap;have B:Hid (∀g,η br g->g.cell? (Φ w.heap.size)=some (Az p)/\g.cell? (Δ w.heap.size 1)=some (Az x)/\g.cell? (Δ w.heap.size 2)=some (.int .u64 ((s.ws 8).toNat:Int))):=Aa (λg ad=>by
  have f:=bL.out.ξ ad;exact⟨f.cell 0,f.cell 1,f.cell 2⟩)
 obtain⟨m,o,q⟩:=B.out br (Below.refl _ _);rw[ac]at m o q;have bR:=Aa ac;have t6:((((s.ws 8).toNat:Nat):Int)!=(((s.ws 8).toNat:Nat):Int))=false:=by simp
 clear h r bg bi bj bk af bl Q bd ab R ap ac;go_enter func13,ntmps13
 go_wp2_with fail
 rw[<-bR.out];refine aG.out.mono ?_;rintro e H⟨cm,rfl,a8,S⟩;obtain⟨bw,bX,rfl,b4,ba⟩:=DR a8;have aE:=Aa ba;have aq:=Aa S;have aM:=Aa (aL.out.below (τ J.out S));have M:=Aa (aM.out.sys.load 8 bN.out);rw[show((8*8:Nat):Int)=64 from rfl]at M;have al:=Aa (show Calls prog 16 #[Az p] H λe w'=>∃bq,e=.returned bq/\w'.ownsRow H.heap.size 3 1 bq (En s).length (XA (En s))/\η H w' from by
  obtain⟨tb,j,n,cT,cH,own,ca,-⟩:=aM.out.sys;exact Vw ca.at)
 rw[<-aD.out]at al;clear aG a8 ba S b4 m o q;obtain⟨m,o,q⟩:=B.out H aq.out
 go_wp2_with fail
 refine M.out.mono ?_;rintro e co⟨rfl,rfl⟩;clear M
 go_wp2_with fail
 refine al.out.mono ?_;rintro e ce⟨cn,rfl,a9,T⟩;obtain⟨bx,b0,rfl,b5,bb⟩:=DR a9;have am:=Aa (aE.out.below T);have E:((En s).map BZ).length=n:=by rw[BX,aD.out]
 have u:=Aeu ((En s).map BZ) bw bx bX b0 ce O (by have h:=am.out;rw[Nat.mul_one]at h;rw[E];exact h) (by have h:=bb;rw[Nat.mul_one]at h;rw[E];simpa[XA,U9,Io,Function.comp_def]using h);rw[E]at u;have u:=Aa u;have bB:=Aa (τ aq.out T);clear al a9 bb T b5 E m o q aE am
 go_wp2_with fail
 refine u.out.mono ?_;rintro e cf⟨rfl,an⟩;have K:=Aa (τ bB.out (an.below _));have aR:=Aa (aL.out.below (τ J.out K.out));have av:=Aa (Apr aR.out aH.out);obtain⟨m,o,q⟩:=B.out cf K.out;clear an u
 go_wp2_with fail
 refine av.out.mono ?_;rintro e cg⟨rfl,U⟩;have ar:=Aa (τ K.out U);have N:=Aa (Al3 (aR.out.below U) aH.out);unfold wV at N;clear U av m o q;obtain⟨m,o,q⟩:=B.out cg ar.out
 go_wp2_with fail
 refine N.out.mono ?_;rintro e c⟨z,a,rfl,Z,b7,a6,b8,a2⟩;have bT:=Aa (τ J.out (τ ar.out a2));have az:=Aa a6;have aB:=Aa Z;obtain⟨bs,G⟩:=ε (c.alloc (itO z (Yo a).length #[]));have bS:Hid (η c bs):=Aa (G▸(Below.refl _ _).alloc (Ad _) _);have bE:Hid (bs.heap[c.heap.size]?=some (itO z (Yo a).length #[])):=Aa (by rw[G];exact heap_alloc_new _ _);have bc:=mg (P:=prog) underlying89 c z (Yo a) Z.map;rw[<-G]at bc;clear N Z b7 a6 b8 a2 G m o q
 go_wp2_with fail
 go_loopw [](λwr=>∃seen:Array Nat,wr.heap[c.heap.size]?=some (itO z (Yo a).length seen)/\η c wr)(λwr=>(leftOf (WC 0 (Yo a)).toArray (wr.iterSeen c.heap.size)).size)
 case atStart=>exact⟨#[],bE.out,bS.out⟩
 case round=>
  obtain⟨seen,D,j⟩:=hrel;have be:wr.iterSeen c.heap.size=seen:=by unfold Ai5;rw[D];rfl
  clear bc;rcases mi (P:=prog) wr 0 c.heap.size z seen (Yo a) (aB.out.below j).map D with⟨_,y⟩|⟨b,W,g,b9,a5,a1,cb,ao,y,C⟩
  ·have v:∀ah,(Instr.next (Az c.heap.size) false ah).run prog wr=_:=λ_=>y
   have I:=Aa (τ bT.out j);clear y j D
   go_wp2_with fail
   go_ret;exact⟨rfl,I.out⟩
  ·have V:η c g:=j.trans (a1.below j.size (λbW e=>by rw[e];exact Ad _));have v:∀ah,(Instr.next (Az c.heap.size) false ah).run prog wr=_:=λ_=>y
   have X:b<a.length:=by rw[Alq]at W;exact W
   have a3:b<items.length:=by have:=congrArg UF az.out;simp at this;omega
   rw[Alr a b W X]at C v;unfold lkV at C v;have aa:a[b].2.l=ch items[b].1:=by
    have f:(a.map λbh=>(bh.1,bh.2.l))[b]?=(items.map λk=>((dY k).k,ch k.1))[b]?:=by rw[az.out]
    rw[CB,CB,Ae X,Ae a3]at f;simp only[Option.map_some,Option.some.injEq,Prod.mk.injEq]at f;exact f.2
   obtain⟨i,A,t,a4⟩:=bV.out _ (BH a3);have bo:=((aB.out.below V).rows _ (BH X)).1;have Y:0<a[b].2.l.length:=by rw[aa,t];simp
   obtain⟨bW,cl,a0,_,_,u1,_⟩:=LkR.at bo 0 Y;rw[Nat.zero_mul,Nat.add_zero]at u1;have bA:a[b].2.l[0].rc.stamp.toNat<=(s.ws 8).toNat:=by
    have b1:a[b].2.l[0]=i:=by
     have f:a[b].2.l[0]?=(i::A)[0]?:=by rw[aa,t]
     rw[Ae Y]at f;simpa using f
    rw[b1];exact a4
   generalize a[b].2.l[0].rc.stamp=bp at*;rw[a0]at C v;obtain⟨cd,a7⟩:=ε (a[b].2.l.length);rw[<-a7]at Y C v;have t0:((cd:Int)==0)=false:=ζ O;have t1:decide (((s.ws 8).toNat:Int)<(bp.toNat:Int))=false:=decide_eq_false O;have t2:decide ((s.ws 8).toNat<bp.toNat)=false:=decide_eq_false O;have I:=Aa V;have aw:=Aa ao;have bO:Hid ((leftOf (WC 0 (Yo a)).toArray (seen.push b)).size<(leftOf (WC 0 (Yo a)).toArray (wr.iterSeen c.heap.size)).size):=Aa (by rw[be];exact a5);generalize a[b]=bt at*;clear y j D a1 cb ao V a5 b9 be aa t a4 bo bA a7 a0
   go_wp2_with fail
   go_roundw
   case rel=>exact⟨seen.push b,aw.out,I.out⟩
   case measure=>
    have b2:g.iterSeen c.heap.size=seen.push b:=by unfold Ai5;rw[aw.out];rfl
    rw[b2];exact bO.out
section
variable{w w':World}{x d p L:Nat}{s:St}{F:Nat->Prop}
def eF{lf:Int}(h:IU (.up (MU lf)) w x d p L s F)(u:0<lf/\lf<=9){e:Nat}{stamp:UInt64}{vs k:Value}{i:Int}(r:Pv w e x d p stamp vs k false i F)(a:Wr)(t:a.key.size<=16)(z:a.text.size<=40){v:UInt64}
 (o:GH s a.key.data.toList=(v,0))(A:v.toNat≠0)(_:a.gone=false)(m:DN ⟨stamp,v,a.gone,a.text⟩=true){off:Nat}{s1:St}(y:CP s 1=some (off,s1))(n:(GV {s1 with ws:=BK s1.ws (off/8) (CW ⟨stamp,v,a.gone,a.text⟩)} off).2=0):
 Calls prog 48 #[Az e,VR a] w λg w'=>g=.returned (.tuple #[.agg #[.int .u64 0,.int .u64 0],.int .i64 12])/\
  ∃b,IU (.down (Half s1.ws (BK s1.ws (off/8) (CW ⟨stamp,v,a.gone,a.text⟩)))) w' x d p L (Aif {s1 with ws:=BK s1.ws (off/8) (CW ⟨stamp,v,a.gone,a.text⟩)} off) b/\Pv w' e x d p stamp vs k false i b/\AP F b w w':=by
 exact(WN (m2:=.up M0) (m3:=.up M0) h r a t rfl (.inr ⟨rfl,O⟩) (er:=12) (O0:=0) (s2:=s) (s3:=s) (pl:=0) (λl f=>o▸WM (h.below f) a.key O)
  (λl f=>sZ (h.below f).sys u ⟨stamp,v,a.gone,a.text⟩ (by show a.text.size<=_;omega) m y n) (λc=>absurd c U) (λc=>absurd c U)).mono λg w' q=>q
end
section
variable{w:World}{x d p:Nat}{F:Nat->Prop}
def Aew(h:Ix w x d p 100 (st0 FT) F){v:Value}{G:Nat->Prop}(H:H7 w G v [Xb]):
 Calls prog 8 #[wV d p x,v] w λg w'=>g=.returned (.int .i64 0)/\∃a,Ix w' x d p 100 Gu a/\AP F a w w':=by
 have s:(st0 FT).ws 8=0:=I7 FT 8 U;have z:(st0 FT).ws 8+1=1:=by rw[s];rfl
 refine(lY h H (by decide+kernel) (List.pairwise_singleton _ _) U (by rw[s];decide)
  (λb l f wr=>∃c,w.heap.size<=b/\η w c/\((f=0/\wr=c/\Asw c w.heap.size b x d p 100 (st0 FT) 1 l [Xb] [] false 0 F (.slice none 0 0))\/
   (f=1/\∃a m,Asw wr w.heap.size b x d p 100 (RP FT JU JH) 1 l [Xb] [(0,OT FT JH)] false 0 a m/\AP (JG F b (.slice none 0 0)) (JG a b m) c wr)))
  (λo w'=>o=0/\∃a,Ix w' x d p 100 Gu a/\AP F a w w') (λb l c i k r=>?_) (λb l f wr M A=>?_)).mono ?_
 ·rw[z]at r;exact⟨c,i,k,.inl ⟨rfl,rfl,r⟩⟩
 ·obtain⟨c,i,k,⟨rfl,rfl,e⟩|⟨rfl,a,m,e,B⟩⟩:=A
  ·refine(qO e U U (pv:=0) (pl:=OT FT JH) (s2:=RP FT JU JH) (λL f=>(Ahh (e.ix.below f) ⟨e.box.ξ f,e.fj⟩ Xb U U (Aam FT JU U) rfl (Ag7 rY) (one_add rY) (Aal rY)).mono (λg N t=>⟨t.1,t.2⟩))).mono ?_;rintro g O⟨rfl,u,K,J,C⟩;exact .inl ⟨rfl,by decide,wr,i,k,.inr ⟨rfl,u,K,J,C⟩⟩
  ·have n:=XP (q:=⟨.up (-1),RP FT JU JH⟩) e rfl U (by decide+kernel);rw[Qq]at n;refine n.mono ?_;rintro g P⟨rfl,y,I,D⟩;exact .inr ⟨0,rfl,rfl,y,I,Xi k i (B.trans D)⟩
 ·rintro g w'⟨o,rfl,rfl,E⟩;exact⟨rfl,E⟩
def Aex(h:IU (.up (MU 8)) w x d p 100 Gu F){v:Value}{G:Nat->Prop}(D:H7 w G v [Alb,Ao2]){off:Nat}{s1:St}(B:CP Gu 1=some (off,s1))(C:(GV {s1 with ws:=BK s1.ws (off/8) (CW aX)} off).2=0):
 Calls prog 8 #[wV d p x,v] w λe w'=>e=.returned (.int .i64 12)/\∃l b,IU (.down (Half s1.ws (BK s1.ws (off/8) (CW aX)))) w' x d p 100 l b/\AP F b w w':=by
 have r:Gu.ws 8=1:=by show D9 (RP FT JU JH).ws 8 1 8=1;unfold D9;rw[if_pos rfl]
 have u:Gu.ws 8+1=2:=by rw[r];rfl
 refine(lY (md:=MU 8) h D (by decide+kernel) (by unfold VQ;decide+kernel) U (by rw[r];decide)
  (λg m c wr=>∃a,w.heap.size<=g/\η w a/\c=0/\wr=a/\EZ (.up (MU 8)) a w.heap.size g x d p 100 Gu 2 m [Alb,Ao2] [] false 0 F (.slice none 0 0))
  (λn w'=>n=12/\∃l b,IU (.down (Half s1.ws (BK s1.ws (off/8) (CW aX)))) w' x d p 100 l b/\AP F b w w') (λg m a i k o=>?_) (λg m c wr I y=>?_)).mono ?_
 ·rw[u]at o;exact⟨a,i,k,rfl,rfl,o⟩
 ·obtain⟨a,i,k,rfl,rfl,f⟩:=y;refine(tC (q:=⟨.down (Half s1.ws (BK s1.ws (off/8) (CW aX))),Aif {s1 with ws:=BK s1.ws (off/8) (CW aX)} off⟩) (er:=12) U f (BB _) U U (by decide+kernel)
   (λH c=>(eF (f.ix.below c) U ⟨f.box.ξ c,f.fj⟩ Alb U U Ate Ao4 rfl Alc B C).mono (λe J s=>⟨s.1,s.2⟩))).mono ?_
  rintro e K⟨rfl,t,E,z⟩;exact .inr ⟨12,rfl,rfl,_,t,E.ix,Xi k i z⟩
 ·rintro e w'⟨n,rfl,rfl,A⟩;exact⟨rfl,A⟩
end
def Al4{ws:Nat->UInt64}{o:Nat}(d:ws 8=1):∀b,∀c∈EK (λ_=>[]) (CG JU.data.toList) ⟨o,⟨1,0,false,JH⟩⟩ b,c.rc.stamp.toNat<=((Ik Gu ws).ws 8).toNat:=by
 intro b c a;rw[show(Ik Gu ws).ws 8=1 from d];unfold EK at a;split at a
 ·rw[BG]at a;subst a;exact Ad 1
 ·cases a
def Al5(cR:Am2){w:World}(aB:Tabs w):Calls prog 4 #[] w λb w'=>b=.returned (.bool true)/\η w w':=by
 have t:=Aa8 (L:=100) U U VC aB;rw[show((100:Nat):Int)=100 from rfl]at t;have t:=Aa t;have dI:=Aa aB.lt;obtain⟨c0,s1,b0,b1,a0⟩:=Ald;have an:=Aa (And.intro b0 b1);have bj:=Aa a0;clear aB b0 b1 a0;go_enter func4,ntmps4
 go_wp2_with fail
 refine t.out.mono ?_;rintro b g⟨d,p,x,F,rfl,A,aD,hF,dp⟩;unfold wV;obtain⟨z,K,bW,Z⟩:=Fz g 34 [Az d,Az p,Az x];obtain⟨ap,bS,aE,br⟩:=Fz z 53 [.string JU,.string JH,.bool false];have r:H7 ap (λ_=>False) (.slice (some (Φ z.heap.size)) 1 1) [Xb]:=⟨some (Φ z.heap.size),1,rfl,Ad _,CQ.rd br,λ_ _ _ h=>h⟩;have i:η g ap:=τ bW aE;have b6:=A.below i;have cV:z.heap.size=g.heap.size+1:=by rw[K];simp
 have bR:∀a,F a->a<g.heap.size:=A.sys.lt;have dm:=A.sys.tabs.lt;have dn:=A.box.lt;rw[cV]at r;have u:=Aew b6 r;unfold wV at u;have u:=Aa u;have ab:=Aa (τ aD i);have b9:=Aa (Z.ξ aE);have cJ:=Aa K;have cK:=Aa bS;have ad:Hid (∀a,F a->w.heap.size<=a/\a<g.heap.size):=Aa (λa h=>⟨hF a h,bR a h⟩);obtain⟨c,e,f⟩:=Z.p3;rw[K]at c e f;have da:=aD.size;clear t A aD hF K bS bW aE Z br r i b6 bR
 go_wp2_with fail
 rw[<-cJ.out];rw[show z.alloc (.cells #[.string {data:= #[97]},.string {data:= #[120]},.bool false] 53)=ap from cK.out.symm];refine u.out.mono ?_;rintro b dC⟨rfl,cG,aM,I⟩;have db:=b9.out.lt;have ac:=Aa (ab.out.trans (I.touch.below ab.out.size (λa h=>(ad.out a h).1)));have aq:=Aa (b9.out.touch I.touch (λh=>Ω ((ad.out _ h).2)));have af:Hid (∀a,cG a->w.heap.size<=a/\a≠g.heap.size):=Aa (λa h=>(I.own a h).elim (λh=>Ω (ad.out a h)) (λav=>Ω ab.out.size));have bq:=Aa (sV aM.sys 8 U);have y:=Aa aM;clear c e f;obtain⟨c,e,f⟩:=aq.out.p3;clear u aM I
 go_wp2_with fail
 refine bq.out.mono ?_;rintro b B⟨⟨dx,rfl⟩,cX,be,b3,q,bx⟩;obtain rfl:cX=.up (MU 8):=bx.elim (λh=>h.2) (λh=>absurd h.1 U);have b7:IU (.up (MU 8)) B x d p 100 Gu be:=⟨b3,y.out.box.touch q.touch y.out.out,λh=>(q.own x h).elim y.out.out (λav=>Ω y.out.box.lt)⟩;have cN:=Aa (ac.out.trans (q.touch.below ac.out.size (λa h=>(af.out a h).1)));have a2:=Aa (aq.out.touch q.touch (λh=>(af.out _ h).2 rfl));have ah:Hid (∀a,be a->w.heap.size<=a/\a≠g.heap.size):=Aa (λa h=>(q.own a h).elim (af.out a) (λav=>Ψ aq.out.lt ac.out.size));obtain⟨bA,bw,M,bs⟩:=Fz B 53 [.string JU,.string Ao1,.bool false,.string Ata,.string Atb,.bool false];have r:H7 bA (λ_=>False) (.slice (some (Φ B.heap.size)) 2 2) [Alb,Ao2]:=⟨some (Φ B.heap.size),2,rfl,Ad _,CQ.rd bs,λ_ _ _ h=>h⟩;have v:=Aex (b7.below M) r an.out.1 an.out.2;unfold wV at v;have v:=Aa v;have ao:=Aa (τ cN.out M);have a5:=Aa (a2.out.ξ M);have cL:=Aa bw;clear c e f;obtain⟨c,e,f⟩:=a2.out.p3;clear bq y b3 q bx b7 bw M bs r
 go_wp2_with fail
 rw[show B.alloc (.cells #[.string {data:= #[97]},.string {data:= #[121]},.bool false,.string {data:= #[98]},.string {data:= #[122]},.bool false] 53)=bA from cL.out.symm];refine v.out.mono ?_;rintro b C⟨rfl,dt,bg,b8,J⟩;have cY:=Aa (ao.out.trans (J.touch.below ao.out.size (λa h=>(ah.out a h).1)));have a3:=Aa (a5.out.touch J.touch (λh=>(ah.out _ h).2 rfl));have al:Hid (∀a,bg a->w.heap.size<=a/\a≠g.heap.size):=Aa (λa h=>(J.own a h).elim (ah.out a) (λav=>Ψ a5.out.lt ao.out.size));have bp:=Aa b8;clear c e f;obtain⟨c,e,f⟩:=a3.out.p3;clear v b8 J
 go_wp2_with fail
 obtain⟨bB,bT,N,bt⟩:=Fz C 5 [.int .u8 9,.int .u8 9,.int .u8 9];have bO:Bs bB (some (Φ C.heap.size)) 3 [9,9,9]:=CQ.rd bt;have a6:∀a,bg a->a<C.heap.size:=bp.out.sys.lt;have bh:=Aa (bC (.inr ⟨_,rfl⟩) (bp.out.sys.below N) (some (Φ C.heap.size)) 3 3 [9,9,9] U ⟨Ad _,bO,λdg ar h=>by
  injection ar with ar
  subst ar;exact absurd (a6 _ h) (Y9 _)⟩)
 have bE:=Aa (τ cY.out N);have cx:=Aa (a3.out.ξ N);have cM:=Aa bT;clear bT N bt bO a6;rw[show C.alloc (.cells #[.int .u8 9,.int .u8 9,.int .u8 9] 5)=bB from cM.out.symm];refine bh.out.mono ?_;rintro b c6⟨⟨dy,rfl⟩,ws,own,O,aR,bX,aL,a7,bL,bN⟩;have O:Half s1.ws (BK s1.ws (c0/8) (CW aX)) ws:=O;obtain⟨H,b5,⟨ds,aH⟩,cU,b4⟩:=bj.out ws O;have cj:=Aa (bE.out.trans (aL.below bE.out.size (λa h=>(al.out a h).1)));have a8:=Aa (cx.out.touch aL (λh=>(al.out _ h).2 rfl));have aG:(Ik Gu ws).sh=FT:=by rw[b4]
 have aw:=cR c6 _ _ _ _ (Ik Gu ws) (Ik Gu ws) _ _ U U aR a7 bL bN (by rw[aG];exact VC) (by rw[aG];exact b5) (Loose.start aH) aH.ix.ok (Al4 H) (by rw[show(Ik Gu ws).ws 8=1 from H];decide);rw[show(Ik Gu ws).ws 8=1 from H,show((1:UInt64).toNat:Int)=1 from rfl]at aw;have bl:=Aa aw;have ck:Hid ((En (Ik Gu ws)).length=2):=Aa Atd;have bi:Hid (∀a,own a->w.heap.size<=a/\a≠g.heap.size):=Aa (λa h=>al.out a (bX a h));clear c e f;obtain⟨c,e,f⟩:=a8.out.p3;clear bh O H b5 aH cU b4 aR bX aL a7 bL bN aw aG bj an
 go_wp2_with fail
 refine bl.out.mono ?_;rintro b c3⟨ca,c7,dd,ch,rfl,S,⟨b2,-,V⟩,W,cy,cW⟩;have c1:=Aa (cj.out.trans (W.below cj.out.size (λa h=>(bi.out a h).1)));have co:=Aa (a8.out.touch W (λh=>(bi.out _ h).2 rfl));obtain⟨dq,dr,cg,cb,c2,cc,cd,ce,cf,_⟩:=aW b2;have cI:Hid (cg.length=2):=Aa (by rw[<-KJ cg,ce,BX,V];exact ck.out);have cz:=Aa V;have dc:=Aa S;obtain⟨de,X,P,s⟩:=Fz c3 45 [Az ca,Az c7,.int .u64 1];have Y:=S.below P;have az:=MG Y cb cc cd cf;rw[cI.out]at az;have bo:=Aa az;have cA:=Aa Y;have cm:=Aa (τ c1.out P);have T:=Aa (co.out.ξ P);have cl:=Aa s;replace c:=T.out.cell 0;replace e:=T.out.cell 1;replace f:=T.out.cell 2;have k:=s.cell 0;have l:=s.cell 1;have m:=s.cell 2;simp only[List.getElem?_cons_zero,List.getElem?_cons_succ]at c e f k l m;rw[X]at c e f k l m;have cB:=Aa X;clear bl S W cy cW X P s Y az b2 V cb c2 cc cd ce cf
 go_wp2_with fail
 rw[<-cB.out];refine bo.out.mono ?_;rintro b c4⟨du,rfl,a9,E⟩;obtain⟨c8,dh,rfl,dk,_⟩:=DR a9;have cn:=Aa (τ cm.out E);have a4:=Aa (cl.out.ξ E);have cC:=Aa (cA.out.below E);clear k l m;obtain⟨k,l,m⟩:=a4.out.p3;have am:=Aa (Aaa 40 c4 U U);rw[show((40:Nat):Int)=40 from rfl]at am;clear bo a9 E
 go_wp2_with fail
 refine am.out.mono ?_;rintro b c5⟨d13,cQ,rfl,ba,_,_,i⟩;have bb:=Aa (cC.out.below i);have bk:=Aa (pq (w:=c5) ⟨cQ,_,ba,λ_=>Iff.rfl⟩ bb.out.sys.tabs);have cp:=Aa (τ cn.out i);have cq:=Aa (a4.out.ξ i);clear am ba i
 go_wp2_with fail
 refine bk.out.mono ?_;rintro b Q⟨rfl,G⟩;have bm:=Aa (λcP=>pg cP);have cD:=Aa (bb.out.below G);have cr:=Aa (τ cp.out G);have cs:=Aa (cq.out.ξ G);clear bk G
 go_wp2_with fail
 refine(bm.out _).mono ?_;rintro b bc⟨rfl,a1⟩;have o:η Q bc:=(Below.trans ((Below.refl Q.heap.size Q).alloc (Ad _) (.cells #[.pointer none,.pointer none,.int .u64 0] 45)) (a1.mono Θ));obtain⟨R,D⟩:=ε (bc.alloc (.cells #[.pointer none,.pointer none,.int .u64 0] 45));replace o:η Q R:=o.trans (D▸(Below.refl _ _).alloc o.size _);have cE:=Aa (cD.out.below o);have ct:=Aa (τ cr.out o);have cF:=Aa (cs.out.ξ o);have aa:=Aa (show Calls prog 16 #[Az ca] R λb w'=>∃ci,b=.returned ci/\w'.ownsRow R.heap.size 3 1 ci (En ch).length (XA (En ch))/\η R w' from by
  obtain⟨tb,j,n,cT,cH,own,cS,-⟩:=cE.out.sys;exact Vw cS.at)
 rw[cz.out,ck.out]at aa;clear k l m;obtain⟨k,l,m⟩:=cF.out.p3;rw[D]at k l m;have cv:=Aa D;clear bm o a1 D
 go_wp2_with fail
 rw[<-cv.out];refine aa.out.mono ?_;rintro b dz⟨dv,rfl,bd,bV⟩;obtain⟨c9,dj,rfl,dl,_⟩:=DR bd;have cw:=Aa (τ ct.out bV);clear aa bd bV
 go_wp2_with fail
 go_ret;exact⟨rfl,cw.out⟩
