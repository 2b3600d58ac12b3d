import Derived.Test.YtekhjimghoibfaaGreatDoorI20
set_option linter.defProp false
open List renaming getElem?_drop->D7,getElem?_eq_getElem->Ae,mem_append->AL,mem_singleton->BG,length->UF,append_cancel_left->ED,append_assoc->AV,mem_append_right->Bj,mem_append_left->BJ,reverse_perm->Ae7,map_reverse->Afg,drop_append_of_le_length->Yr,mem_reverse->Qd,getD_eq_getElem?_getD->Bo
open UInt64 renaming ofNat->Aj
namespace Go.Proofs.YtekhjimghoibfaaGreatDoor
def Ahw{d:Type}(xs:List d)(i a:Nat)(h:i<=xs.length):(JC xs i)[a]?=if a<i then xs[a]? else xs[a+1]?:=by
 unfold JC;have b:(xs.take i).length=i:=by simp;omega
 split
 ·rename_i c;rw[List.getElem?_append_left O,List.getElem?_take,if_pos c]
 ·rw[List.getElem?_append_right O,b,D7];congr 1;omega
def SA{a:Type}(xs:List a)(i:Nat)(h:i<xs.length):(JC xs i).length+1=xs.length:=by unfold JC;simp;omega
def Ti{e:Type}(xs:List e)(i a:Nat)(h:i<xs.length)(d:a<(JC xs i).length):∃(b:(if a<i then a else a+1)<xs.length),(JC xs i)[a]=xs[if a<i then a else a+1]:=by
 have f:=SA xs i h;have b:(if a<i then a else a+1)<xs.length:=by split<;>omega
 refine⟨b,?_⟩;have:=Ahw xs i a O;rw[Ae d]at this;have c:(if a<i then xs[a]? else xs[a+1]?)=xs[if a<i then a else a+1]?:=by split<;>rfl
 rw[c,Ae b]at this;exact Option.some.inj this
def Ahx{a:Type}{xs:List a}{i:Nat}{x:a}(h:x∈JC xs i):x∈xs:=by
 unfold JC at h;rcases AL.1 h with h|h
 ·exact List.mem_of_mem_take h
 ·exact List.mem_of_mem_drop h
def Ads{x:Nd}(h:Cf x=true){i:Nat}(hi:i<x.kids.length):Cf (Ru x i)=true:=by
 obtain⟨k,l,s,f,m,n⟩:=(Bv x).1 h;have c:i<x.labels.length:=O;have q:=SA x.labels i c;have r:=SA x.kids i hi;refine(Bv _).2 ⟨k,l,by show(JC x.labels i).length=(JC x.kids i).length;omega,?_,?_,λa d=>?_⟩
 ·rw[List.all_eq_true]at f⊢;exact λp o=>f p (Ahx o)
 ·show ER (JC x.labels i)=true;rw[Ht];intro a d;obtain⟨e,b⟩:=Ti x.labels i a c O;obtain⟨g,j⟩:=Ti x.labels i (a+1) c d;rw[b,j];exact IC _ m _ _ (by split<;>split<;>omega) g
 ·obtain⟨e,b⟩:=Ti x.kids i a hi d;show(JC x.kids i)[a].toNat≠0;rw[b];exact n _ e
def Ak6{l:List UInt8}(c:ER l=true){i:Nat}(hi:i<l.length):Jk l l[i]=some i:=by
 unfold Jk;rw[List.findIdx?_eq_some_iff_getElem];refine⟨hi,by simp,λj b=>?_⟩;have:=IC _ c j i b hi;simp;intro a;rw[a]at this;omega
def V6(items b:List Kv)(k:List UInt8):Prop:=∀a,a∈b<->a∈items/\a.1≠k
def As7(X:Nat->Prop)(L:Nat)(s:St)(items:List Kv)(k:List UInt8)(r:St×UInt64×Int):Prop:=
 (r=(s,0,7)/\∀b∈items,b.1≠k)\/(Ij X s r.1/\r.2.2=0/\(k,r.2.1)∈items/\∃a,IW X L r.1 a/\V6 items a k)
section
variable{X:Nat->Prop}{L:Nat}{s:St}{items:List Kv}{blocks:List Nat}{key:List UInt8}
def Aoy(h:IW X L s items)(ac:s.ws 9≠0)(ap:∀n,(∃Q,AO s n Q)<->n∈blocks\/X n)(V:∀n∈blocks,¬X n)(ad:blocks.Nodup){a:Pl}{m q:List UInt8}{M:Nat}{az:UInt64}{parts:List Part}{A B:List Kv}{O P:List Nat}
 (S:XK L s 32 (s.ws 9) items blocks 72 (CG key) a m q M az parts A B O P){i:Nat}(h1:i<a.nd.kids.length)(h2:i<a.nd.labels.length)(h3:i<parts.length){F:List UInt8}(hcut:a.nd.pre++a.nd.labels[i]::F=m){v:UInt64}(am:parts[i].items=[(F,v)]):
 (CG key,v)∈items/\∃w y,(match FY ⟨s,[]⟩ (Ru a.nd i)with|(av,E,c)=>EI av c a.word E ((parts[i].blocks.map Int.ofNat).reverse++[a.off]))=(w,y)/\
  ((y=6/\w=s)\/(y=0/\Ij X s w/\∃J,IW X L w J/\V6 items J (CG key))):=by
 obtain⟨n,o⟩:=lu h.ok ad S;have I:=(Bv a.nd).1 o.right;have C:CG key=q++m:=S.cut;have H:=Sm a.nd.pre a.nd.labels parts i h2 h3 (Ω S.len);rw[am]at H;have aq:Fa a.nd.pre a.nd.labels[i] [(F,v)]=[(m,v)]:=by unfold Fa;simp[hcut]
 have Z:Bl a.nd.pre (JC a.nd.labels i) (JC parts i)=Bl a.nd.pre (a.nd.labels.take i) (parts.take i)++Bl a.nd.pre (a.nd.labels.drop (i+1)) (parts.drop (i+1)):=by
  unfold JC;exact NP _ _ _ _ _ (by simp;omega)
 have W:AX (JC parts i)=AX (parts.take i)++AX (parts.drop (i+1)):=by
  unfold JC;exact P5 _ _
 have u:∀b f,(b,f)∈Cc a.nd++Bl a.nd.pre a.nd.labels parts<->(b,f)∈Cc a.nd++Bl a.nd.pre (JC a.nd.labels i) (JC parts i)\/(b,f)=(m,v):=λb f=>by
  rw[H,Z,aq];simp only[AL,BG];constructor
  ·rintro(g|g|g|g)
   ·exact .inl (.inl g)
   ·exact .inl (.inr (.inl g))
   ·exact .inr g
   ·exact .inl (.inr (.inr g))
  ·rintro((g|g|g)|g)
   ·exact .inl g
   ·exact .inr (.inl g)
   ·exact .inr (.inr (.inr g))
   ·exact .inr (.inr (.inl g))
 have af:∀b f,(b,f)∈Cc a.nd++Bl a.nd.pre (JC a.nd.labels i) (JC parts i)->b≠m:=λb f Y c=>by
  have aa:∀e(g:e<a.nd.labels.length),e≠i->a.nd.labels[e]≠a.nd.labels[i]:=λe g ao c=>by
   rcases Nat.lt_or_gt_of_ne ao with j|j
   ·have:=IC _ I.2.2.2.2.1 e i j h2;rw[c]at this;omega
   ·have:=IC _ I.2.2.2.2.1 i e j g;rw[c]at this;omega
  rcases AL.1 Y with g|g
  ·obtain⟨g,_⟩:=FH g;injection g with g _
   rw[g,<-hcut]at c;have:=congrArg UF c;simp at this
  ·obtain⟨e,t1,t2,aD,_,g⟩:=EW g;injection g with g _
   rw[g,<-hcut]at c;have p:=ED c;injection p with p _
   obtain⟨d,j⟩:=Ti a.nd.labels i e h2 t1;rw[j]at p;exact aa _ d (by split<;>omega) p
 have z:∀b f,(b,f)∈Cc a.nd++Bl a.nd.pre a.nd.labels parts->(q++b,f)∈items:=λb f U=>by
  rw[S.its,AV];exact Bj _ (BJ _ (E8.2 ⟨b,U,rfl⟩))
 refine⟨by rw[C];exact z m v ((u m v).2 (.inr rfl)),?_⟩;rcases O5 (Grown.start h.ok h.nh) (Ads o.right h1)with c|⟨ar,E,aE,c,_,g,ah,ab,an,_⟩
 ·rw[c];exact⟨s,6,rfl,.inl ⟨rfl,rfl⟩⟩
 ·rw[c];simp only;have x:=DV.mk (s:=ar.s) M E (Ru a.nd i) (JC parts i) an S.pre (λ_=>S.kid (λc=>by rw[c]at h1;exact absurd h1 Θ)) (by
   have:=SA parts i h3;have:=SA a.nd.kids i h1;show(JC parts i).length=(JC a.nd.kids i).length;have:=S.len;omega) (λe d j=>by
   obtain⟨u1,u2⟩:=Ti a.nd.kids i e h1 d;obtain⟨u3,u4⟩:=Ti parts i e h3 j;have R:(Ru a.nd i).kids[e]=a.nd.kids[if e<i then e else e+1]:=u2;rw[R,u4];exact(S.sub _ u1 u3).keep h.ok g.ok g.keep (λ_ _=>trivial))
  rw[ah,Int.toNat_natCast]at x;have al:Cc (Ru a.nd i)=Cc a.nd:=rfl;rw[al]at x;obtain⟨aB,p,aw,N⟩:=iL h ac ap V o g ab x (K:=AX (JC parts i)) (D:=parts[i].blocks) (dl:=parts[i].blocks.reverse++[n])
   (by
    rw[La parts i h3,W];have:(AX (parts.take i)++(parts[i].blocks++AX (parts.drop (i+1)))).Perm (AX (parts.take i)++(AX (parts.drop (i+1))++parts[i].blocks)):=List.Perm.append_left _ List.perm_append_comm;simpa[AV]using this)
   Θ (List.Perm.append_right _ (Ae7 _)) (λl t=>by
    obtain⟨b,f⟩:=l;exact h.even _ (z b f ((u b f).2 (.inl t))))
  refine⟨aB,0,?_,.inr ⟨rfl,aw,_,N,λl=>?_⟩⟩
  ·rw[o.off,<-p,List.map_append,Afg];rfl
  ·constructor
   ·intro t;rw[AV]at t;rcases AL.1 t with d|d
    ·exact⟨by rw[S.its];simp[d],o.other l (.inl d)⟩
    ·rcases AL.1 d with d|d
     ·obtain⟨b,j,k⟩:=E8.1 d;have:=z b l.2 ((u b l.2).2 (.inl j));refine⟨by rw[<-k]at this;exact this,λc=>?_⟩;rw[k,C]at c;exact af b l.2 j (ED c)
     ·exact⟨by rw[S.its];simp[d],o.other l (.inr d)⟩
   ·rintro⟨d,j⟩;rw[S.its,AV]at d;rw[AV];rcases AL.1 d with k|k
    ·exact BJ _ k
    ·rcases AL.1 k with k|k
     ·obtain⟨b,T,G⟩:=E8.1 k;rcases(u b l.2).1 T with r|r
      ·exact Bj _ (BJ _ (E8.2 ⟨b,r,G⟩))
      ·injection r with r _
       exact absurd (by rw[G,r,C]) j
     ·exact Bj _ (Bj _ k)
def Adt(h:IW X L s items)(D:s.ws 9≠0)(G:∀o,(∃u,AO s o u)<->o∈blocks\/X o)(z:∀o∈blocks,¬X o)(E:blocks.Nodup){b:Pl}{n q:List UInt8}{M:Nat}{K:UInt64}{parts:List Part}{A B:List Kv}{r t:List Nat}{o:Nat}
 (a:WX L s items blocks key b n q M K parts A B r t o)(l:b.nd.pre=n):Ij X s (Qk s b 0)/\∃m,IW X L (Qk s b 0) m/\V6 items m (CG key):=by
 obtain⟨x,y⟩:=rG h D G z E a.toOV l 0;refine⟨x,_,y,λi=>?_⟩;have j:=a.spot;have k:CG key=q++b.nd.pre:=by rw[l];exact j.cut
 have H:Cc {b.nd with val:=0}=[]:=rfl;have p:∀e,(e,i.2)∈Bl b.nd.pre b.nd.labels parts->q++e≠CG key:=λe C f=>by
  obtain⟨I,d,g,J,_,v⟩:=EW C;rw[k]at f;have:=ED f;have w:e=b.nd.pre++b.nd.labels[I]::J.1:=congrArg Prod.fst v;rw[w]at this;have:=congrArg UF this;simp at this
 rw[H,List.nil_append,j.its];simp only[AL,E8];constructor
 ·rintro((c|⟨e,d,g⟩)|c)
  ·exact⟨.inl (.inl c),a.other i (.inl c)⟩
  ·exact⟨.inl (.inr ⟨e,.inr d,g⟩),by rw[g];exact p e d⟩
  ·exact⟨.inr c,a.other i (.inr c)⟩
 ·rintro⟨(c|⟨e,d,g⟩)|c,F⟩
  ·exact .inl (.inl c)
  ·rcases d with d|d
   ·obtain⟨f,_⟩:=FH d;injection f with f _
    exact absurd (by rw[g,f,k]) F
   ·exact .inl (.inr ⟨e,d,g⟩)
  ·exact .inr c
def lF(h:IW X L s items)(key:List UInt8)(be:key.length<=16):As7 X L s items (CG key) (QX s key):=by
 by_cases Y:s.ws 9=0
 ·have M:items=[]:=by
   rcases h.tree with⟨_,a5,_⟩|⟨_,n,_⟩
   ·exact a5
   ·exact absurd Y n
  subst M;refine .inl ⟨?_,λ_ h=>nomatch h⟩;unfold QX EY;rw[if_neg O,Y,Et,if_pos rfl];rfl
 ·rcases h.tree with⟨n,_⟩|⟨blocks,n,T,A,I,C⟩
  ·exact absurd n Y
  ·obtain⟨d,a,p,q,b5,b1,parts,aM,B,bO,bS,b3,u,r⟩:=around h.ok n T A key be;have E:=r.spot;have Z:(d++[a]).getLast?=some a:=by simp
   have az:∀f∈items,f∈aM\/f∈B\/∃D,(D,f.2)∈Cc a.nd++Bl a.nd.pre a.nd.labels parts/\f.1=q++D:=λf t=>by
    rw[E.its,AV]at t;rcases AL.1 t with e|e
    ·exact .inl e
    ·rcases AL.1 e with e|e
     ·exact .inr (.inr (E8.1 e))
     ·exact .inr (.inl e)
   unfold QX;rw[if_neg O,u];simp only;by_cases v:a.nd.pre=p
   ·have P:CX (d++[a]) p=some a:=by unfold CX;rw[Z];simp only;rw[if_pos v]
    rw[P];simp only;have aw:CG key=q++a.nd.pre:=by rw[v];exact E.cut
    by_cases w:a.nd.val=0
    ·rw[if_pos w];refine .inl ⟨rfl,λf t k=>?_⟩;rcases az f t with e|e|⟨D,g,l⟩
     ·exact r.other f (.inl e) k
     ·exact r.other f (.inr e) k
     ·rcases AL.1 g with g|g
      ·exact(FH g).2 w
      ·obtain⟨i,bX,b0,bq,_,y⟩:=EW g;rw[l,aw]at k;have H:=ED k;have a1:D=a.nd.pre++a.nd.labels[i]::bq.1:=congrArg Prod.fst y;rw[a1]at H;have:=congrArg UF H;simp at this
    ·rw[if_neg w];right;have R:(CG key,a.nd.val)∈items:=by
      rw[E.its,AV];refine Bj _ (BJ _ (E8.2 ⟨a.nd.pre,BJ _ ?_,aw⟩));unfold Cc;rw[if_pos w];exact BG.2 rfl
     have J:=Adt h n C I A r v;by_cases N:a.nd.kids.length=0
     ·rw[if_pos N];have bg:(d++[a]).length-1=d.length:=by simp
      obtain⟨o,a8,k,aE⟩:=aF (d++[a]) d.length Θ [a.off];have aB:Et s (2*key.length+1) (s.ws 9) (CG key) 0 72 []=some (d++[a],p):=u;have bW:=KC key;have a6:∀i,i<=d.length->[a.off]++((((d++[a]).drop i).take (d.length-i)).map (·.off)).reverse=(((d++[a]).drop i).map (·.off)).reverse:=λi M=>by
       rw[Yr M,List.take_append_of_le_length Θ,List.take_of_length_le Θ];simp
      rw[a6 o a8]at k;unfold Ko;rw[bg,Z];simp only[Option.map_some,Option.getD_some];rw[k];cases o with
      |zero=>
       simp only[List.drop_zero];obtain⟨V,y⟩:=WZ h.ok (2*key.length+1) 32 (s.ws 9) items blocks (CG key) 0 72 T O n (d++[a]) p a aB P N w (λi S g l=>aE i S (Nat.zero_le _) (by simp at g;omega) l);have H:((d++[a]).map (·.off)).reverse=blocks.reverse.map Int.ofNat:=by rw[<-y,Afg]
       obtain⟨x,m⟩:∃x,x=({s with ws:=D9 s.ws 9 0}:St):=⟨_,rfl⟩;have aH:Bq L x:=by
        rw[m];exact h.ok.words (λi M=>by unfold D9;rw[if_neg O])
       have G:∀b c,AO x b c<->AO s b c:=λb c=>by rw[m];exact Iff.rfl
       have aq:blocks.reverse.Nodup:=(Ae7 _).nodup_iff.2 A;have ar:∀b∈blocks.reverse,∃c,AO x b c:=λb u=>by
        obtain⟨c,z⟩:=(C b).2 (.inl (Qd.1 u));exact⟨c,(G b c).2 z⟩
       obtain⟨aL,a2,bt,aG,bb,ad,ac⟩:=V3 blocks.reverse aH aq ar;have al:=aC blocks.reverse aH aq ar;rw[a2]at al;have K:EI ⟨s,[]⟩ 0 72 0 ((d++[a]).map (·.off)).reverse=(aL,0):=by
        unfold EI;rw[if_neg Θ,H,<-al,m];rfl
       rw[K];simp only;rw[if_neg U];simp only[if_true];have a7:Ij X s aL:=⟨aG.trans (by rw[m]),λj aa bd=>by
        rw[ad j (.inl aa),m];show D9 s.ws 9 0 j=_;unfold D9;rw[if_neg bd],λb ah u aD=>⟨(ac b ah).2 ⟨(G b ah).2 aD,λab=>I b (Qd.1 ab) u⟩,λj aa=>by
        have aR:=h.ok.Dy (aD.bounds h.ok).1 aa;rw[ad j (.inr (by rw[m];exact aR)),m];show D9 s.ws 9 0 j=_;unfold D9;rw[if_neg O]⟩⟩
       refine⟨a7,trivial,R,[],⟨bt,λb c bc=>h.nh b c ((Oc (by rw[bb,m]) (by rw[aG,m]) b c).1 bc),.inl ⟨?_,rfl,λb=>?_⟩,λ_ h=>nomatch h⟩,λf=>?_⟩
       ·rw[ad 9 (.inl U),m];rfl
       ·constructor
        ·rintro⟨c,z⟩;obtain⟨g,l⟩:=(ac b c).1 z;exact((C b).1 ⟨c,(G b c).1 g⟩).resolve_left (λa9=>l (Qd.2 a9))
        ·intro Q;obtain⟨c,z⟩:=(C b).2 (.inr Q);exact⟨c,(ac b c).2 ⟨(G b c).2 z,λab=>I b (Qd.1 ab) Q⟩⟩
       ·rw[V];exact⟨λh=>(nomatch h),λ⟨e,bi⟩=>absurd (by rw[BG.1 e]) bi⟩
      |succ o=>
       simp only;have bh:o+1<(d++[a]).length:=by simp;omega
       obtain⟨S,b7,b4,b6,b2,bw,bE,bL,bR,bT,i,W,b8,g,F,l,an,a3,a4,ao,ap⟩:=l7 h.ok o (2*key.length+1) 32 (s.ws 9) items blocks (CG key) 0 72 T A O O n (d++[a]) p aB bh;have av:i<bw.length:=Ω F.len;have af:Cf S.nd=true:=by
        obtain⟨_,_,_,bj,_⟩:=Ii h.ok F.rd;exact bj
       have bk:CX ((d++[a]).drop (o+1)) p=some a:=by
        unfold CX;rw[Yr O];simp only[List.getLast?_append,List.getLast?_singleton,Option.some_or];rw[if_pos v]
       obtain⟨V,y⟩:=WZ h.ok W _ _ _ _ _ _ _ (F.sub i l av) a4 ao _ p a ap bk N w (λbx bA t1 t2=>aE (o+1+bx) bA O (by simp at t1;omega) (by rw[D7]at t2;exact t2));obtain⟨am,rfl⟩:∃am,W=am+1:=⟨W-1,O⟩;obtain⟨bB,bN,Q,bm,_⟩:=iM ap ao;have bl:(d++[a])[o+1]?=some bB:=by
        have:=congrArg (λbs=>bs[0]?) Q;simpa[D7]using this
       rw[g,bl];simp only;rw[bm,Ak6 ((Bv S.nd).1 af).2.2.2.2.1 an];simp only;rw[if_pos af];obtain⟨_,x,bV,K,ba⟩:=Aoy h n C I A F l an av a3 V;simp only at K;rw[<-y,K];simp only;rcases ba with⟨rfl,rfl⟩|⟨rfl,br,bo,bp,a0⟩
       ·simp only[if_true];exact⟨J.1,trivial,R,J.2⟩
       ·rw[if_neg U];simp only[if_true];exact⟨br,trivial,R,bo,bp,a0⟩
     ·rw[if_neg N];simp only[if_true];exact⟨J.1,trivial,R,J.2⟩
   ·have P:CX (d++[a]) p=none:=by unfold CX;rw[Z];simp only;rw[if_neg v]
    rw[P];refine .inl ⟨rfl,λf t k=>?_⟩;rcases az f t with e|e|⟨D,g,l⟩
    ·exact r.other f (.inl e) k
    ·exact r.other f (.inr e) k
    ·rw[l,E.cut]at k;exact r.below v _ g (ED k)
end
def Fp(ws:Nat->UInt64)(sh:Sh):St:={sh:=sh,ws:=ws,tk:=wordsAt ws (sh.table/8) sh.BQ,hd:=List.replicate sh.BQ 0}
def aK(s:St)(ws':Nat->UInt64):Prop:=∀j,(∀b a,Eo s b a->¬Ho b a j)->ws' j=s.ws j
def Fnd(X:Nat->Prop)(L:Nat)(s0:St)(items:List Kv)(ws':Nat->UInt64):Prop:=∃a:Nat->Prop,(∀b,X b->a b)/\IW a L (Fp ws' s0.sh) items/\Ij X s0 (Fp ws' s0.sh)
section
variable{X:Nat->Prop}{L:Nat}{s0 sF s:St}{items its:List Kv}{ws':Nat->UInt64}
def Y4(ws:Nat->UInt64)(sh:Sh)(i:Nat):hdN (Fp ws sh) i=0:=by
 unfold hdN Fp;simp only[Bo,List.getElem?_replicate];split<;>rfl
def Y5(ws:Nat->UInt64)(sh:Sh)(o b:Nat):¬Eo (Fp ws sh) o b:=by
 rintro⟨d,c,_,a,_⟩;rw[Y4,FC]at a;cases a
def aK.low(a:Bq L s)(h:aK s ws'):∀j,j<16+s.sh.BQ->ws' j=s.ws j:=λj e=>h j (λf d b c=>by
 have:=a.Dy (b.bounds a).1 c;omega)
def lH(b:Bq L s)(h:aK s ws'):wordsAt ws' (s.sh.table/8) s.sh.BQ=s.tk:=by
 apply List.ext_getElem
 ·simp[wordsAt,b.OA]
 ·intro a e c;have d:a<s.sh.BQ:=by rw[<-b.OA];exact c
  rw[Gf,b.sh.table,show 128/8+a=16+a by omega,h.low b (16+a) O,b.tab a d,Bo,Ae c];rfl
def Tj(b:Bq L s)(h:aK s ws'):Bq L (Fp ws' s.sh)/\(∀d c,AO (Fp ws' s.sh) d c<->AO s d c)/\DI s (Fp ws' s.sh) (λ_=>True):=by
 have k:∀a,GU (Fp ws' s.sh) a=GU s a:=λa=>by
  unfold GU;rw[show(Fp ws' s.sh).tk=s.tk from lH b h]
 have i:∀d c,AO (Fp ws' s.sh) d c<->AO s d c:=λd c=>by
  unfold AO;simp only[k];exact Iff.rfl
 refine⟨⟨b.sh,b.L1,by rw[show(Fp ws' s.sh).tk=s.tk from lH b h];exact b.OA,by simp[Fp],λa e=>by rw[k];exact b.tk a e,λa _=>.inl (Y4 _ _ a),λa _=>.inr (.inl (Y4 _ _ a)),λa n _ _=>by rw[Y4,FC],λa e=>?_⟩,i,λd c _ f=>⟨(i d c).2 f,λj m=>h j (λp o g e=>?_)⟩⟩
 ·show ws' (16+a)=(Fp ws' s.sh).tk.getD a 0;rw[show(Fp ws' s.sh).tk=s.tk from lH b h,h.low b (16+a) (by have:a<s.sh.BQ:=e;omega)];exact b.tab a e
 ·obtain⟨_,l⟩:=Me b g f;exact Nl l (g.bounds b).2.2 (f.bounds b).2.2 e m
def IW.again{s':St}(h:IW X L s items)(l:Bq L s')(u:∀o d,¬Eo s' o d)(k:DI s s' (λ_=>True))(e:s'.ws 9=s.ws 9):IW (λo=>(∃d,AO s' o d)/\((∃d,AO s o d)->X o)) L s' items:=by
 have t:∀o,(∃d,AO s o d)->∃d,AO s' o d:=λo⟨d,q⟩=>⟨d,(k o d trivial q).1⟩
 refine⟨l,u,?_,h.even⟩;rcases h.tree with⟨c,n,a⟩|⟨blocks,c,m,r,p,a⟩
 ·exact .inl ⟨e.trans c,n,λo=>⟨λi=>⟨i,λg=>(a o).1 g⟩,λh=>h.1⟩⟩
 ·refine .inr ⟨blocks,by rw[e];exact c,by rw[e];exact m.keep h.ok l k (λ_ _=>trivial),r,λo b f=>p o b (f.2 ((a o).2 (.inl b))),λo=>?_⟩;constructor
  ·intro i;by_cases j:o∈blocks
   ·exact .inl j
   ·exact .inr ⟨i,λg=>((a o).1 g).resolve_left j⟩
  ·rintro(b|f)
   ·exact t o ((a o).2 (.inl b))
   ·exact f.1
def IW.taken(h:IW X L s items){o:Nat}(b:X o):∃d,AO s o d:=by
 rcases h.tree with⟨_,_,a⟩|⟨_,_,_,_,_,a⟩
 ·exact(a o).2 b
 ·exact(a o).2 (.inr b)
def found(hF:IW X L sF its)(c:Ij X s0 sF)(k:Bq L s)(sh:s.sh=sF.sh)(p:DI sF s (λ_=>True))(r:∀j,j<16->s.ws j=sF.ws j)(f:aK s ws'):Fnd X L s0 its ws':=by
 obtain⟨l,q,i⟩:=Tj k f;have m:s.sh=s0.sh:=sh.trans c.sh;rw[m]at l q i;have b:DI sF (Fp ws' s0.sh) (λ_=>True):=p.trans i;have e:∀j,j<16->(Fp ws' s0.sh).ws j=sF.ws j:=λj a=>(f.low k j O).trans (r j a)
 refine⟨_,λt g=>?_,hF.again l (Y5 _ _) b (e 9 U),⟨rfl,λj a n=>(e j a).trans (c.low j a n),c.keep.trans (b.mono λ_ _=>trivial)⟩⟩;obtain⟨d,o⟩:=hF.taken g;exact⟨⟨d,(b t d trivial o).1⟩,λ_=>g⟩
def Gi(s:St):aK s s.ws:=λ_ _=>rfl
end
def Dn(Good:(Nat->UInt64)->Prop)(q:Ms):Prop:=∃a,q.pw=.down a/\∀ws',a ws'->Good ws'
def aN(Good:(Nat->UInt64)->Prop)(r:Ms×Int)(a:St×Int):Prop:=(∃lf,r=(⟨.up lf,a.1⟩,a.2))\/Dn Good r.1
def nz(lf:Int)(j:Jb):Jm:=⟨⟨.up lf,j.s⟩,j.made⟩
def Ahy(Good:(Nat->UInt64)->Prop)(r:Jm×UInt64×Int)(a:Jb×UInt64×Int):Prop:=(∃lf,r=(nz lf a.1,a.2))\/Dn Good r.1.s
section
variable{Good Amu:(Nat->UInt64)->Prop}{q:Ms}{s:St}{lf:Int}
def Dn.mono(h:Dn Good q)(k:∀ws',Good ws'->Amu ws'):Dn Amu q:=by
 obtain⟨a,b,h⟩:=h;exact⟨a,b,λws' c=>k _ (h ws' c)⟩
def aO(h:Dn Good q)(N:Nat)(c:Nat->UInt64):Dn Good (Lj q N c).1:=by
 obtain⟨a,b,h⟩:=h;refine⟨a,?_,h⟩;unfold Lj;rw[b]
def rP(h:Dn Good q)(i:Nat)(x:UInt64):Dn Good (L8 q i x).1:=by
 have a:=aO h 3 (D9 q.s.ws (q.s.sh.table/8+i) x);unfold L8;split;rename_i d c b;rw[b]at a;split
 ·exact a
 ·exact a
def aP(h:Dn Good q)(off:Int):Dn Good (IP q off).1:=by
 unfold IP;split
 ·exact h
 ·rename_i a c _;split
  ·have b:=rP h a (Aj (FX (GU q.s a) (Bc (hdN q.s a)) c).1);split;rename_i f e d;rw[d]at b;split<;>exact b
  ·exact h
def Np(h:Dn Good q)(off:Int):Dn Good (Eh q off).1:=by
 unfold Eh;split
 ·exact h
 ·split
  ·exact h
  ·split
   ·exact rP h _ _
   ·exact h
def PZ:∀(l:List Int){q:Ms},Dn Good q->Dn Good (Kt q l)
 |[],_,h=>h
 |a::l,q,h=>PZ l (q:=(Eh q a).1) (Np h a)
def QH:∀(l:List Int){q:Ms}(e:Int),Dn Good q->Dn Good (J6 q l e).1
 |[],_,_,h=>h
 |a::l,q,_,h=>QH l (q:=(Eh q a).1) _ (Np h a)
def iQ{j:Jm}(h:Dn Good j.s)(n:Nd):Dn Good (DD j n).1.s:=by
 unfold DD;split
 ·exact h
 ·split
  ·exact h
  ·rename_i b e _;have a:=aO (q:=⟨j.s.pw,e⟩) (Good:=Good) (by obtain⟨f,c,h⟩:=h;exact⟨f,c,h⟩) (JF (b/8) (DT n).length) (BK e.ws (b/8) (DT n));split;rename_i l k g;rw[g]at a;split
   ·have d:=aP a (b:Int);split;rename_i m c i;rw[i]at d;split<;>exact d
   ·exact a
def Oe{j:Jm}(h:Dn Good j.s)(n:Nd)(b:UInt8)(a:UInt64)(e:Int):Dn Good (Gj j n b a e).1.s:=by
 unfold Gj;split
 ·exact h
 ·split
  ·exact iQ h _
  ·exact h
def rQ:∀(f:Nat){j:Jm},Dn Good j.s->∀(l:List UInt8)(a:UInt64),Dn Good (JA f j l a).1.s
 |0,_,h,_,_=>h
 |f+1,j,h,l,a=>by
  unfold JA;split
  ·exact iQ h _
  ·have b:=rQ f h (l.drop 16) a;split;rename_i e g d c;rw[c]at b;exact Oe b _ _ _ _
def yI{j:Jm}(h:Dn Good j.s)(e c:Int)(b:UInt64)(f:List Int):Dn Good (Ey j e c b f).1:=by
 unfold Ey;split
 ·exact PZ _ h
 ·have a:=aO h 3 (D9 j.s.s.ws (c.toNat/8) b);split;rename_i i g d;rw[d]at a;split
  ·exact QH _ _ a
  ·exact PZ _ a
def Adu{ws ws':Nat->UInt64}{j:Nat}{x:UInt64}(h:Half ws (D9 ws j x) ws'):ws'=ws\/ws'=D9 ws j x:=by
 have d:∀a,a≠j->ws' a=ws a:=λa b=>by
  rcases h a with c|c
  ·exact c
  ·rw[c];unfold D9;rw[if_neg b]
 rcases h j with c|c
 ·refine .inl (funext λa=>?_);by_cases b:a=j
  ·rw[b];exact c
  ·exact d a b
 ·refine .inr (funext λa=>?_);by_cases b:a=j
  ·rw[b];exact c
  ·rw[d a b];unfold D9;rw[if_neg b]
def yJ(N:Nat)(a:Nat->UInt64)(b:∀ws',Half s.ws a ws'->Good ws'):aN Good (Lj ⟨.up lf,s⟩ N a) ({s with ws:=a},0):=by
 unfold Lj;simp only;split
 ·by_cases c:bU lf N=0
  ·exact .inr ⟨_,by rw[if_pos c],λws' d=>b ws' (by rw[d];exact λ_=>.inr rfl)⟩
  ·exact .inl ⟨bU lf N,by rw[if_neg c]⟩
 ·exact .inr ⟨_,rfl,b⟩
def Tm(j:Nat)(x:UInt64)(h1:Good s.ws)(h2:Good (D9 s.ws j x)):aN Good (Lj ⟨.up lf,s⟩ 3 (D9 s.ws j x)) ({s with ws:=D9 s.ws j x},0):=
 yJ 3 _ (λ_ h=>(Adu h).elim (λa=>a▸h1) (λa=>a▸h2))
def rU(i:Nat)(x:UInt64)(h1:Good s.ws)(h2:Good (We s i x).ws):aN Good (L8 ⟨.up lf,s⟩ i x) (We s i x,0):=by
 have h:=Tm (lf:=lf) (s.sh.table/8+i) x h1 h2;unfold L8;rcases h with⟨a,h⟩|h
 ·simp only[h,if_true];exact .inl ⟨a,rfl⟩
 ·right;generalize Lj ⟨.up lf,s⟩ 3 (D9 s.ws (s.sh.table/8+i) x)=b at h⊢;obtain⟨d,c⟩:=b;simp only at h⊢;split<;>exact h
def rV(off:Int)(h1:Good s.ws)(h2:Good (GV s off).1.ws):aN Good (IP ⟨.up lf,s⟩ off) (GV s off):=by
 unfold IP GV at*;simp only;cases e:Hf s off with
 |none=>exact .inl ⟨lf,rfl⟩
 |some g=>
  obtain⟨a,b⟩:=g;rw[e]at h2;simp only at h2⊢;cases f:EH (hdN s a) b
  ·exact .inl ⟨lf,rfl⟩
  ·rw[f]at h2;simp only[if_true]at h2⊢;rcases rU (lf:=lf) a (Aj (FX (GU s a) (Bc (hdN s a)) b).1) h1 h2 with⟨c,h⟩|h
   ·rw[h];exact .inl ⟨c,rfl⟩
   ·right;generalize L8 ⟨.up lf,s⟩ a (Aj (FX (GU s a) (Bc (hdN s a)) b).1)=d at h⊢;obtain⟨j,i⟩:=d;simp only at h⊢;split<;>exact h
def V7(off:Int)(h1:Good s.ws)(h2:Good (Fj s off).1.ws):aN Good (Eh ⟨.up lf,s⟩ off) (Fj s off):=by
 unfold Eh Fj at*;simp only;cases e:Hf s off with
 |none=>exact .inl ⟨lf,rfl⟩
 |some f=>
  obtain⟨a,b⟩:=f;rw[e]at h2;simp only at h2⊢;cases c:(Ee (hdN s a) b).2
  ·rw[c]at h2;simp only[Bool.false_eq_true,if_false]at h2⊢;cases d:(Ee (GU s a) b).2
   ·exact .inl ⟨lf,rfl⟩
   ·rw[d]at h2;exact rU a _ h1 h2
  ·exact .inl ⟨lf,rfl⟩
def iR:∀(l:List Int){s:St}{lf:Int},(∀d,Good (Ez s (l.take d)).ws)->(∃a,Kt ⟨.up lf,s⟩ l=⟨.up a,Ez s l⟩)\/Dn Good (Kt ⟨.up lf,s⟩ l)
 |[],s,lf,_=>.inl ⟨lf,rfl⟩
 |b::l,s,lf,h=>by
  show(∃a,Kt (Eh ⟨.up lf,s⟩ b).1 l=⟨.up a,Ez (Fj s b).1 l⟩)\/Dn Good (Kt (Eh ⟨.up lf,s⟩ b).1 l);rcases V7 (s:=s) (lf:=lf) b (h 0) (h 1)with⟨a,c⟩|c
  ·rw[c];exact iR l (λd=>h (d+1))
  ·exact .inr (PZ l c)
def aQ:∀(l:List Int){s:St}{lf:Int}(e:Int),(∀a,Good (Ez s (l.take a)).ws)->aN Good (J6 ⟨.up lf,s⟩ l e) (JZ s l e)
 |[],s,lf,e,_=>.inl ⟨lf,rfl⟩
 |b::l,s,lf,e,h=>by
  unfold J6 JZ;rcases V7 (s:=s) (lf:=lf) b (h 0) (h 1)with⟨c,e⟩|e
  ·rw[e];exact aQ l _ (λa=>h (a+1))
  ·exact .inr (QH l _ e)
end
def aS:∀(l:List Int)(s:St)(e:Int),(JZ s l e).1=Ez s l
 |[],_,_=>rfl
 |a::l,s,e=>by
  unfold JZ;exact aS l _ _
def yK(s:St)(off:Int):(Fj s off).2=0\/(Fj s off).2=7:=by
 unfold Fj;split
 ·exact .inr rfl
 ·split
  ·exact .inl rfl
  ·split
   ·exact .inl rfl
   ·exact .inr rfl
def XL:∀(l:List Int)(s:St)(e:Int),e=0\/e=7->(JZ s l e).2=0\/(JZ s l e).2=7
 |[],_,_,h=>h
 |a::l,s,e,h=>by
  unfold JZ;refine XL l _ _ ?_;split
  ·exact yK s a
  ·exact h
section
variable{X:Nat->Prop}{L:Nat}{s0 s:St}{items:List Kv}{j:Jb}{B:List Nat}
def rW{w a:Nat}(h:EH w a=false):(Ee w a).2=false:=by unfold Ee;rw[h];rfl
def Adv(f:Bq L s)(n:∀b a,¬Eo s b a)(off:Int):Bq L (Fj s off).1/\(∀b a,¬Eo (Fj s off).1 b a)/\(Fj s off).1.sh=s.sh/\(∀j,j<16->(Fj s off).1.ws j=s.ws j)/\DI (Fj s off).1 s (λ_=>True):=by
 have u:∀d:Int,Bq L (s,d).1/\(∀b a,¬Eo (s,d).1 b a)/\(s,d).1.sh=s.sh/\(∀j,j<16->(s,d).1.ws j=s.ws j)/\DI (s,d).1 s (λ_=>True):=λd=>⟨f,n,rfl,λ_ _=>rfl,DI.refl _ _⟩
 cases g:Hf s off with
 |none=>
  rw[show Fj s off=(s,7)by unfold Fj;rw[g]];exact u 7
 |some D=>
  obtain⟨e,c⟩:=D;obtain⟨k,H,F,A⟩:=qX f g;have z:EH (hdN s e) c=false:=by
   cases i:EH (hdN s e) c with
   |false=>rfl
   |true=>exact absurd ⟨e,c,k,i,rfl,rfl⟩ (n _ _)
  cases m:EH (GU s e) c with
  |false=>
   rw[show Fj s off=(s,7)by unfold Fj;rw[g];simp only[rW z,rW m,Bool.false_eq_true,if_false]];exact u 7
  |true=>
   obtain⟨p,B,x,G⟩:=f.Pz k m;have C:AO s (CY s.sh e p c) p:=⟨e,c,k,m,B.class,rfl⟩;rw[A,x];obtain⟨I,v,E,t,y,o,r⟩:=Vz f C;rw[v];refine⟨E,λb a i=>n b a ((Oc y t b a).1 i),t,λj l=>o j (.inl l),λb a _ q=>⟨((r b a).1 q).1,λj l=>?_⟩⟩;have w:=((r b a).1 q).1;exact(o j (.inr (f.Dy (w.bounds f).1 l))).symm
def U6:∀(l:List Int){s:St},Bq L s->(∀c a,¬Eo s c a)->Bq L (Ez s l)/\(∀c a,¬Eo (Ez s l) c a)/\(Ez s l).sh=s.sh/\(∀j,j<16->(Ez s l).ws j=s.ws j)/\DI (Ez s l) s (λ_=>True)
 |[],s,d,b=>⟨d,b,rfl,λ_ _=>rfl,DI.refl _ _⟩
 |t::l,s,d,b=>by
  obtain⟨f,g,i,k,m⟩:=Adv d b t;obtain⟨n,o,p,q,r⟩:=U6 l f g;exact⟨n,o,p.trans i,λj e=>(q j e).trans (k j e),r.trans m⟩
def aT(l:List Int)(k:Nat)(o:Bq L s)(m:∀n f,¬Eo s n f):Bq L (Ez s (l.take k))/\(Ez s (l.take k)).sh=(Ez s l).sh/\(∀j,j<16->(Ez s (l.take k)).ws j=(Ez s l).ws j)/\DI (Ez s l) (Ez s (l.take k)) (λ_=>True):=by
 obtain⟨a,b,p,q,r⟩:=U6 (l.take k) o m;obtain⟨t,u,c,d,e⟩:=U6 (l.drop k) a b;have g:Ez s l=Ez (Ez s (l.take k)) (l.drop k):=by
  unfold Ez;rw[<-List.foldl_append,List.take_append_drop]
 rw[g];exact⟨a,c.symm,λj i=>(d j i).symm,e⟩
def KH(g:Grown L s0 j B)(n:Nd):∃c,Grown L s0 (FY j n).1 c:=by
 cases b:Cf n with
 |false=>exact⟨B,by rw[show FY j n=(j,0,5)by unfold FY;rw[b];rfl];exact g⟩
 |true=>
  rcases O5 g b with a|⟨e,f,i,a,_,d,_⟩
  ·exact⟨B,by rw[a];exact g⟩
  ·exact⟨_,by rw[a];exact d⟩
def OW(g:Grown L s0 j B)(n:Nd)(c:UInt8)(b:UInt64)(e:Int):∃a,Grown L s0 (Iy j n c b e).1 a:=by
 unfold Iy;split
 ·exact⟨B,g⟩
 ·split
  ·exact KH g _
  ·exact⟨B,g⟩
def Kz:∀(f:Nat){j:Jb}{B:List Nat},Grown L s0 j B->∀(l:List UInt8)(b:UInt64),∃d,Grown L s0 (MV f j l b).1 d
 |0,j,B,a,_,_=>⟨B,a⟩
 |f+1,j,B,a,l,b=>by
  unfold MV;split
  ·exact KH a _
  ·obtain⟨g,c⟩:=Kz f a (l.drop 16) b;split;rename_i k m i e;rw[e]at c;exact OW c _ _ _ _
def XM(h:IW X L s0 items)(g:Grown L s0 j B):Fnd X L s0 items j.s.ws:=found h (Ij.refl _ _) g.ok g.sh g.keep g.low (Gi _)
def Tn(h:IW X L s0 items)(g:Grown L s0 j B)(lf:Int)(n:Nd):Ahy (Fnd X L s0 items) (DD (nz lf j) n) (FY j n):=by
 cases l:Cf n with
 |false=>
  exact .inl ⟨lf,by rw[show FY j n=(j,0,5)by unfold FY;rw[l];rfl,show DD (nz lf j) n=(nz lf j,0,5)by unfold DD;rw[l];rfl]⟩
 |true=>
  cases o:CP j.s (Dl n)with
  |none=>exact .inl ⟨lf,by rw[show FY j n=(j,0,6)by unfold FY;rw[l,o];rfl,show DD (nz lf j) n=(nz lf j,0,6)by unfold DD;rw[l];simp only[nz,o];rfl]⟩
  |some S=>
   obtain⟨a,d⟩:=S;obtain⟨R,z,T,_,H,_,_,M⟩:=MB g.ok (Oa n) o;have I:=Jp n;have x:∀ws',(∀b,¬Ho a (Dl n) b->ws' b=d.ws b)->Fnd X L s0 items ws':=λws' J=>by
    refine found h (Ij.refl _ _) R (T.trans g.sh) (λA t _ K=>?_) (λb e=>by rw[z];exact g.low b e) (λb e=>J b (e _ _ H));obtain⟨N,O⟩:=g.keep A t trivial K;exact⟨(M A t).2 N,λb e=>by rw[z];exact O b e⟩
   have y:∀b,¬Ho a (Dl n) b->BK d.ws (a/8) (DT n) b=d.ws b:=λb e=>by
    unfold BK;rw[if_neg];rintro⟨D,u⟩;exact e ⟨D,by rw[I]at u;exact u⟩
   have v:FY j n=(match GV {d with ws:=BK d.ws (a/8) (DT n)} a with
    |(f,c)=>if c=0 then(⟨f,j.made++[(a:Int)]⟩,Aj a,0)else(⟨f,j.made++[(a:Int)]⟩,0,c)):=by unfold FY;rw[l,o];rfl
   have F:DD (nz lf j) n=(match Lj ⟨.up lf,d⟩ (JF (a/8) (DT n).length) (BK d.ws (a/8) (DT n))with
    |(p,q)=>if q=0 then
       match IP p a with
       |(f,c)=>if c=0 then(⟨f,j.made++[(a:Int)]⟩,Aj a,0)else(⟨f,j.made++[(a:Int)]⟩,0,c)
     else(⟨p,j.made++[(a:Int)]⟩,0,q)):=by unfold DD;rw[l];simp only[nz,o];rfl
   have G:(FY j n).1.s=(GV {d with ws:=BK d.ws (a/8) (DT n)} a).1:=by
    rw[v];generalize GV {d with ws:=BK d.ws (a/8) (DT n)} a=i;obtain⟨f,c⟩:=i;simp only;split<;>rfl
   obtain⟨U,C⟩:=KH g n;have w:=XM h C;rw[G]at w;rw[F,v];rcases yJ (Good:=Fnd X L s0 items) (lf:=lf) (JF (a/8) (DT n).length) (BK d.ws (a/8) (DT n)) (λws' E=>x ws' (λb e=>by
    rcases E b with c|c
    ·exact c
    ·rw[c];exact y b e))with⟨P,k⟩|k
   ·rw[k];simp only[if_true];rcases rV (lf:=P) (a:Int) (x _ (λb e=>y b e)) w with⟨Q,m⟩|m
    ·rw[m];left;refine⟨Q,?_⟩;simp only;split<;>rfl
    ·right;generalize IP _ (a:Int)=i at m⊢;obtain⟨f,c⟩:=i;simp only at m⊢;split<;>exact m
   ·right;generalize Lj _ _ _=i at k⊢;obtain⟨p,q⟩:=i;simp only at k⊢;split
    ·have r:=aP k (a:Int);generalize IP p (a:Int)=i at r⊢;obtain⟨f,c⟩:=i;simp only at r⊢;split<;>exact r
    ·exact k
def Tq(h:IW X L s0 items)(g:Grown L s0 j B)(lf:Int)(n:Nd)(b:UInt8)(a:UInt64)(e:Int):Ahy (Fnd X L s0 items) (Gj (nz lf j) n b a e) (Iy j n b a e):=by
 unfold Gj Iy;split
 ·exact .inl ⟨lf,rfl⟩
 ·split
  ·exact Tn h g lf _
  ·exact .inl ⟨lf,rfl⟩
def V8(h:IW X L s0 items):∀(f:Nat){j:Jb}{B:List Nat},Grown L s0 j B->∀(lf:Int)(l:List UInt8)(a:UInt64),Ahy (Fnd X L s0 items) (JA f (nz lf j) l a) (MV f j l a)
 |0,j,B,c,lf,_,_=>.inl ⟨lf,rfl⟩
 |f+1,j,B,c,lf,l,a=>by
  unfold JA MV;split
  ·exact Tn h c lf _
  ·obtain⟨i,d⟩:=Kz f c (l.drop 16) a;rcases V8 h f c lf (l.drop 16) a with⟨g,b⟩|b
   ·rw[b];exact Tq h d g _ _ _ _
   ·right;split;rename_i m n k e;rw[e]at b;exact Oe b _ _ _ _
def yM(g:Grown L s0 j B)(x:Nd)(rest:List UInt8)(d:UInt64):∃f,Grown L s0 (QM j x rest d).1 f:=by
 unfold QM;split
 ·obtain⟨b,a⟩:=Kz (rest.length+1) g (rest.drop (common x.pre rest+1)) d;split;rename_i l m i c;rw[c]at a;exact OW a _ _ _ _
 ·obtain⟨b,a⟩:=KH g {x with pre:=x.pre.drop (common x.pre rest+1)};split;rename_i l m i c;rw[c]at a;split
  ·exact OW a _ _ _ _
  ·split
   ·exact⟨b,a⟩
   ·split
    ·obtain⟨n,e⟩:=Kz (rest.length+1) a (rest.drop (common x.pre rest+1)) d;split;rename_i q o p k;rw[k]at e;exact OW e _ _ _ _
    ·exact⟨b,a⟩
def Ahz(h:IW X L s0 items)(g:Grown L s0 j B)(lf:Int)(x:Nd)(rest:List UInt8)(b:UInt64):Ahy (Fnd X L s0 items) (Jd (nz lf j) x rest b) (QM j x rest b):=by
 unfold Jd QM;split
 ·obtain⟨m,d⟩:=Kz (rest.length+1) g (rest.drop (common x.pre rest+1)) b;rcases V8 h (rest.length+1) g lf (rest.drop (common x.pre rest+1)) b with⟨e,a⟩|a
  ·rw[a];exact Tq h d e _ _ _ _
  ·right;split;rename_i k l i f;rw[f]at a;exact Oe a _ _ _ _
 ·obtain⟨m,d⟩:=KH g {x with pre:=x.pre.drop (common x.pre rest+1)};rcases Tn h g lf {x with pre:=x.pre.drop (common x.pre rest+1)}with⟨e,a⟩|a
  ·rw[a];generalize FY j {x with pre:=x.pre.drop (common x.pre rest+1)}=q at*;obtain⟨k,l,i⟩:=q;simp only at d⊢;split
   ·exact Tq h d e _ _ _ _
   ·split
    ·exact .inl ⟨e,rfl⟩
    ·split
     ·obtain⟨r,n⟩:=Kz (rest.length+1) d (rest.drop (common x.pre rest+1)) b;rcases V8 h (rest.length+1) d e (rest.drop (common x.pre rest+1)) b with⟨p,c⟩|c
      ·rw[c];exact Tq h n p _ _ _ _
      ·exact .inr (Oe c _ _ _ _)
     ·exact .inl ⟨e,rfl⟩
  ·right;split;rename_i k l i f;rw[f]at a;split
   ·exact Oe a _ _ _ _
   ·split
    ·exact a
    ·split
     ·have c:=rQ (rest.length+1) a (rest.drop (common x.pre rest+1)) b;split;rename_i u s t o;rw[o]at c;exact Oe c _ _ _ _
     ·exact a
end
