import Derived.Test.YtfmkofmaabgbkaaGreatDoorJ24
set_option linter.defProp false
open List renaming getElem?_drop->D7,getElem?_eq_getElem->Ah,mem_append->AB,mem_singleton->BQ,length->fM,append_cancel_left->E5,append_assoc->AY,mem_append_right->Bj,mem_append_left->BH,reverse_perm->Agx,map_reverse->Ag7,drop_append_of_le_length->Zf,mem_reverse->QT,getD_eq_getElem?_getD->Bg
open UInt64 renaming ofNat->Az
namespace Go.Proofs.YtfmkofmaabgbkaaGreatDoor
def Aj2{c:Type}(xs:List c)(i t:Nat)(h:i<=xs.length):(JS xs i)[t]?=if t<i then xs[t]? else xs[t+1]?:=by
 unfold JS;have a:(xs.take i).length=i:=by simp;omega
 split
 ·rename_i b;rw[List.getElem?_append_left O1,List.getElem?_take,jM b]
 ·rw[List.getElem?_append_right O1,a,D7];congr 1;omega
def TT{a:Type}(xs:List a)(i:Nat)(h:i<xs.length):(JS xs i).length+1=xs.length:=by unfold JS;simp;omega
def Us{d:Type}(xs:List d)(i t:Nat)(h:i<xs.length)(c:t<(JS xs i).length):∃(a:(if t<i then t else t+1)<xs.length),(JS xs i)[t]=xs[if t<i then t else t+1]:=by
 have e:=TT xs i h;have a:(if t<i then t else t+1)<xs.length:=by split<;>omega
 refine⟨a,?_⟩;have:=Aj2 xs i t O1;rw[Ah c]at this;have b:(if t<i then xs[t]? else xs[t+1]?)=xs[if t<i then t else t+1]?:=by split<;>rfl
 rw[b,Ah a]at this;exact Option.some.inj this
def Aj3{a:Type}{xs:List a}{i:Nat}{x:a}(h:x∈JS xs i):x∈xs:=by
 unfold JS at h;rcases AB.1 h with h|h
 ·exact List.mem_of_mem_take h
 ·exact List.mem_of_mem_drop h
def Afr{x:Nd}(h:BU x=true){i:Nat}(hi:i<x.kids.length):BU (Tc x i)=true:=by
 obtain⟨k,l,s,f,m,n⟩:=(Bh x).1 h;have c:i<x.labels.length:=O1;have q:=TT x.labels i c;have r:=TT x.kids i hi;refine(Bh _).2 ⟨k,l,by show(JS x.labels i).length=(JS x.kids i).length;omega,?_,?_,λa d=>?_⟩
 ·rw[List.all_eq_true]at f⊢;exact λp o=>f p (Aj3 o)
 ·show DY (JS x.labels i)=true;rw[Hz];intro a d;obtain⟨e,b⟩:=Us x.labels i a c O1;obtain⟨g,j⟩:=Us x.labels i (a+1) c d;rw[b,j];exact I8 _ m _ _ (by split<;>split<;>omega) g
 ·obtain⟨e,b⟩:=Us x.kids i a hi d;show(JS x.kids i)[a].toNat≠0;rw[b];exact n _ e
def Anw{l:List UInt8}(c:DY l=true){i:Nat}(hi:i<l.length):Jq l l[i]=some i:=by
 unfold Jq;rw[List.findIdx?_eq_some_iff_getElem];refine⟨hi,by simp,λj b=>?_⟩;have:=I8 _ c j i b hi;simp;intro a;rw[a]at this;omega
def TU(items b:List Kv)(k:List UInt8):Prop:=∀a,a∈b<->a∈items/\a.1≠k
def Auz(X:Nat->Prop)(L:Nat)(s:St)(items:List Kv)(k:List UInt8)(r:St×UInt64×Int):Prop:=
 (r=(s,0,7)/\∀b∈items,b.1≠k)\/(Iu X s r.1/\r.2.2=0/\(k,r.2.1)∈items/\∃a,Jj X L r.1 a/\TU items a k)
section
variable{X:Nat->Prop}{L:Nat}{s:St}{items:List Kv}{blocks:List Nat}{key:List UInt8}
def Aq7(h:Jj X L s items)(ac:s.ws 9≠0)(ap:∀n,(∃Q,AU s n Q)<->n∈blocks\/X n)(V:∀n∈blocks,¬X n)(ad:blocks.Nodup){a:Pl}{m q:List UInt8}{M:Nat}{az:UInt64}{parts:List Part}{A B:List Kv}{O1 P:List Nat}
 (S:YA L s 32 (s.ws 9) items blocks 72 (Ci key) a m q M az parts A B O1 P){i:Nat}(h1:i<a.nd.kids.length)(h2:i<a.nd.labels.length)(h3:i<parts.length){F:List UInt8}(hcut:a.nd.pre++a.nd.labels[i]::F=m){v:UInt64}(am:parts[i].items=[(F,v)]):
 (Ci key,v)∈items/\∃w y,(match FV ⟨s,[]⟩ (Tc a.nd i)with|(av,E,c)=>EG av c a.word E ((parts[i].blocks.map Int.ofNat).reverse++[a.off]))=(w,y)/\
  ((y=6/\w=s)\/(y=0/\Iu X s w/\∃J,Jj X L w J/\TU items J (Ci key))):=by
 obtain⟨n,o⟩:=oG h.ok ad S;have I:=(Bh a.nd).1 o.right;have C:Ci key=q++m:=S.cut;have H:=TR a.nd.pre a.nd.labels parts i h2 h3 (Ω S.len);rw[am]at H;have aq:FK a.nd.pre a.nd.labels[i] [(F,v)]=[(m,v)]:=by unfold FK;simp[hcut]
 have Z:Bl a.nd.pre (JS a.nd.labels i) (JS parts i)=Bl a.nd.pre (a.nd.labels.take i) (parts.take i)++Bl a.nd.pre (a.nd.labels.drop (i+1)) (parts.drop (i+1)):=by
  unfold JS;exact Oj _ _ _ _ _ (by simp;omega)
 have W:Bc (JS parts i)=Bc (parts.take i)++Bc (parts.drop (i+1)):=by
  unfold JS;exact Qd _ _
 have u:∀b f,(b,f)∈BZ a.nd++Bl a.nd.pre a.nd.labels parts<->(b,f)∈BZ a.nd++Bl a.nd.pre (JS a.nd.labels i) (JS parts i)\/(b,f)=(m,v):=λb f=>by
  rw[H,Z,aq];simp only[AB,BQ];constructor
  ·rintro(g|g|g|g)
   ·exact .inl (.inl g)
   ·exact .inl (.inr (.inl g))
   ·exact .inr g
   ·exact .inl (.inr (.inr g))
  ·rintro((g|g|g)|g)
   ·exact .inl g
   ·exact .inr (.inl g)
   ·exact .inr (.inr (.inr g))
   ·exact .inr (.inr (.inl g))
 have ae:∀b f,(b,f)∈BZ a.nd++Bl a.nd.pre (JS a.nd.labels i) (JS parts i)->b≠m:=λb f Y c=>by
  have aa:∀e(g:e<a.nd.labels.length),e≠i->a.nd.labels[e]≠a.nd.labels[i]:=λe g ao c=>by
   rcases Nat.lt_or_gt_of_ne ao with j|j
   ·have:=I8 _ I.2.2.2.2.1 e i j h2;rw[c]at this;omega
   ·have:=I8 _ I.2.2.2.2.1 i e j g;rw[c]at this;omega
  rcases AB.1 Y with g|g
  ·obtain⟨g,_⟩:=Fj g;injection g with g _
   rw[g,<-hcut]at c;have:=congrArg fM c;simp at this
  ·obtain⟨e,t1,t2,aE,_,g⟩:=EP g;injection g with g _
   rw[g,<-hcut]at c;have p:=E5 c;injection p with p _
   obtain⟨d,j⟩:=Us a.nd.labels i e h2 t1;rw[j]at p;exact aa _ d (by split<;>omega) p
 have z:∀b f,(b,f)∈BZ a.nd++Bl a.nd.pre a.nd.labels parts->(q++b,f)∈items:=λb f U=>by
  rw[S.its,AY];exact Bj _ (BH _ (Ey.2 ⟨b,U,rfl⟩))
 refine⟨by rw[C];exact z m v ((u m v).2 (.inr rfl)),?_⟩;rcases Pg (Grown.start h.ok h.nh) (Afr o.right h1)with c|⟨ar,E,aF,c,_,g,ah,ab,an,_⟩
 ·rw[c];exact⟨s,6,rfl,.inl ⟨rfl,rfl⟩⟩
 ·rw[c];simp only;have x:=DX.mk (s:=ar.s) M E (Tc a.nd i) (JS parts i) an S.pre (λ_=>S.kid (λc=>by rw[c]at h1;exact absurd h1 Θ)) (by
   have:=TT parts i h3;have:=TT a.nd.kids i h1;show(JS parts i).length=(JS a.nd.kids i).length;have:=S.len;omega) (λe d j=>by
   obtain⟨u1,u2⟩:=Us a.nd.kids i e h1 d;obtain⟨u3,u4⟩:=Us parts i e h3 j;have R:(Tc a.nd i).kids[e]=a.nd.kids[if e<i then e else e+1]:=u2;rw[R,u4];exact(S.sub _ u1 u3).keep h.ok g.ok g.keep (λ_ _=>trivial))
  rw[ah,Int.toNat_natCast]at x;have al:BZ (Tc a.nd i)=BZ a.nd:=rfl;rw[al]at x;obtain⟨aD,p,aw,N⟩:=kG h ac ap V o g ab x (K:=Bc (JS parts i)) (D:=parts[i].blocks) (dl:=parts[i].blocks.reverse++[n])
   (by
    rw[LD parts i h3,W];have:(Bc (parts.take i)++(parts[i].blocks++Bc (parts.drop (i+1)))).Perm (Bc (parts.take i)++(Bc (parts.drop (i+1))++parts[i].blocks)):=List.Perm.append_left _ List.perm_append_comm;simpa[AY]using this)
   Θ (List.Perm.append_right _ (Agx _)) (λl t=>by
    obtain⟨b,f⟩:=l;exact h.even _ (z b f ((u b f).2 (.inl t))))
  refine⟨aD,0,?_,.inr ⟨rfl,aw,_,N,λl=>?_⟩⟩
  ·rw[o.off,<-p,List.map_append,Ag7];rfl
  ·constructor
   ·intro t;rw[AY]at t;rcases AB.1 t with d|d
    ·exact⟨by rw[S.its];simp[d],o.other l (.inl d)⟩
    ·rcases AB.1 d with d|d
     ·obtain⟨b,j,k⟩:=Ey.1 d;have:=z b l.2 ((u b l.2).2 (.inl j));refine⟨by rw[<-k]at this;exact this,λc=>?_⟩;rw[k,C]at c;exact ae b l.2 j (E5 c)
     ·exact⟨by rw[S.its];simp[d],o.other l (.inr d)⟩
   ·rintro⟨d,j⟩;rw[S.its,AY]at d;rw[AY];rcases AB.1 d with k|k
    ·exact BH _ k
    ·rcases AB.1 k with k|k
     ·obtain⟨b,T,G⟩:=Ey.1 k;rcases(u b l.2).1 T with r|r
      ·exact Bj _ (BH _ (Ey.2 ⟨b,r,G⟩))
      ·injection r with r _
       exact absurd (by rw[G,r,C]) j
     ·exact Bj _ (Bj _ k)
def Afs(h:Jj X L s items)(D:s.ws 9≠0)(G:∀o,(∃u,AU s o u)<->o∈blocks\/X o)(z:∀o∈blocks,¬X o)(E:blocks.Nodup){b:Pl}{n q:List UInt8}{M:Nat}{K:UInt64}{parts:List Part}{A B:List Kv}{r t:List Nat}{o:Nat}
 (a:XO L s items blocks key b n q M K parts A B r t o)(l:b.nd.pre=n):Iu X s (QZ s b 0)/\∃m,Jj X L (QZ s b 0) m/\TU items m (Ci key):=by
 obtain⟨x,y⟩:=vF h D G z E a.toPN l 0;refine⟨x,_,y,λi=>?_⟩;have j:=a.spot;have k:Ci key=q++b.nd.pre:=by rw[l];exact j.cut
 have H:BZ {b.nd with val:=0}=[]:=rfl;have p:∀e,(e,i.2)∈Bl b.nd.pre b.nd.labels parts->q++e≠Ci key:=λe C f=>by
  obtain⟨I,d,g,J,_,v⟩:=EP C;rw[k]at f;have:=E5 f;have w:e=b.nd.pre++b.nd.labels[I]::J.1:=congrArg Prod.fst v;rw[w]at this;have:=congrArg fM this;simp at this
 rw[H,List.nil_append,j.its];simp only[AB,Ey];constructor
 ·rintro((c|⟨e,d,g⟩)|c)
  ·exact⟨.inl (.inl c),a.other i (.inl c)⟩
  ·exact⟨.inl (.inr ⟨e,.inr d,g⟩),by rw[g];exact p e d⟩
  ·exact⟨.inr c,a.other i (.inr c)⟩
 ·rintro⟨(c|⟨e,d,g⟩)|c,F⟩
  ·exact .inl (.inl c)
  ·rcases d with d|d
   ·obtain⟨f,_⟩:=Fj d;injection f with f _
    exact absurd (by rw[g,f,k]) F
   ·exact .inl (.inr ⟨e,d,g⟩)
  ·exact .inr c
def oJ(h:Jj X L s items)(key:List UInt8)(bb:key.length<=16):Auz X L s items (Ci key) (Qo s key):=by
 by_cases Y:s.ws 9=0
 ·have M:items=[]:=by
   rcases h.tree with⟨_,a2,_⟩|⟨_,n,_⟩
   ·exact a2
   ·exact absurd Y n
  subst M;refine .inl ⟨?_,λ_ h=>nomatch h⟩;unfold Qo ER;rw[ku O1,Y,Es,jM rfl];rfl
 ·rcases h.tree with⟨n,_⟩|⟨blocks,n,T,A,I,C⟩
  ·exact absurd n Y
  ·obtain⟨d,a,p,q,bX,bO,parts,aR,B,bC,bE,bS,u,r⟩:=around h.ok n T A key bb;have E:=r.spot;have Z:(d++[a]).getLast?=some a:=by simp
   have aD:∀f∈items,f∈aR\/f∈B\/∃D,(D,f.2)∈BZ a.nd++Bl a.nd.pre a.nd.labels parts/\f.1=q++D:=λf t=>by
    rw[E.its,AY]at t;rcases AB.1 t with e|e
    ·exact .inl e
    ·rcases AB.1 e with e|e
     ·exact .inr (.inr (Ey.1 e))
     ·exact .inr (.inl e)
   unfold Qo;rw[ku O1,u];simp only;by_cases v:a.nd.pre=p
   ·have P:CV (d++[a]) p=some a:=by unfold CV;rw[Z];simp only;rw[jM v]
    rw[P];simp only;have az:Ci key=q++a.nd.pre:=by rw[v];exact E.cut
    by_cases w:a.nd.val=0
    ·rw[jM w];refine .inl ⟨rfl,λf t k=>?_⟩;rcases aD f t with e|e|⟨D,g,l⟩
     ·exact r.other f (.inl e) k
     ·exact r.other f (.inr e) k
     ·rcases AB.1 g with g|g
      ·exact(Fj g).2 w
      ·obtain⟨i,bL,bN,bm,_,y⟩:=EP g;rw[l,az]at k;have H:=E5 k;have aX:D=a.nd.pre++a.nd.labels[i]::bm.1:=congrArg Prod.fst y;rw[aX]at H;have:=congrArg fM H;simp at this
    ·rw[ku w];right;have R:(Ci key,a.nd.val)∈items:=by
      rw[E.its,AY];refine Bj _ (BH _ (Ey.2 ⟨a.nd.pre,BH _ ?_,az⟩));unfold BZ;rw[jM w];exact BQ.2 rfl
     have J:=Afs h n C I A r v;by_cases N:a.nd.kids.length=0
     ·rw[jM N];have bc:(d++[a]).length-1=d.length:=by simp
      obtain⟨o,a5,k,aJ⟩:=dR (d++[a]) d.length Θ [a.off];have aE:Es s (2*key.length+1) (s.ws 9) (Ci key) 0 72 []=some (d++[a],p):=u;have bJ:=Jl key;have a3:∀i,i<=d.length->[a.off]++((((d++[a]).drop i).take (d.length-i)).map (·.off)).reverse=(((d++[a]).drop i).map (·.off)).reverse:=λi M=>by
       rw[Zf M,List.take_append_of_le_length Θ,List.take_of_length_le Θ];simp
      rw[a3 o a5]at k;unfold KD;rw[bc,Z];simp only[Option.map_some,Option.getD_some];rw[k];cases o with
      |zero=>
       simp only[List.drop_zero];obtain⟨V,y⟩:=XP h.ok (2*key.length+1) 32 (s.ws 9) items blocks (Ci key) 0 72 T O1 n (d++[a]) p a aE P N w (λi S g l=>aJ i S (Nat.zero_le _) (by simp at g;omega) l);have H:((d++[a]).map (·.off)).reverse=blocks.reverse.map Int.ofNat:=by rw[<-y,Ag7]
       obtain⟨x,m⟩:∃x,x=({s with ws:=Dt s.ws 9 0}:St):=⟨_,rfl⟩;have aL:BG L x:=by
        rw[m];exact h.ok.words (λi M=>by unfold Dt;rw[ku O1])
       have G:∀b c,AU x b c<->AU s b c:=λb c=>by rw[m];exact Iff.rfl
       have ar:blocks.reverse.Nodup:=(Agx _).nodup_iff.2 A;have av:∀b∈blocks.reverse,∃c,AU x b c:=λb u=>by
        obtain⟨c,z⟩:=(C b).2 (.inl (QT.1 u));exact⟨c,(G b c).2 z⟩
       obtain⟨aM,aZ,bq,ah,a8,ad,ac⟩:=WQ blocks.reverse aL ar av;have am:=dP blocks.reverse aL ar av;rw[aZ]at am;have K:EG ⟨s,[]⟩ 0 72 0 ((d++[a]).map (·.off)).reverse=(aM,0):=by
        unfold EG;rw[ku Θ,H,<-am,m];rfl
       rw[K];simp only;rw[ku U];simp only[if_true];have a4:Iu X s aM:=⟨ah.trans (by rw[m]),λj aa ba=>by
        rw[ad j (.inl aa),m];show Dt s.ws 9 0 j=_;unfold Dt;rw[ku ba],λb al u aF=>⟨(ac b al).2 ⟨(G b al).2 aF,λab=>I b (QT.1 ab) u⟩,λj aa=>by
        have aV:=h.ok.D5 (aF.bounds h.ok).1 aa;rw[ad j (.inr (by rw[m];exact aV)),m];show Dt s.ws 9 0 j=_;unfold Dt;rw[ku O1]⟩⟩
       refine⟨a4,trivial,R,[],⟨bq,λb c a9=>h.nh b c ((O8 (by rw[a8,m]) (by rw[ah,m]) b c).1 a9),.inl ⟨?_,rfl,λb=>?_⟩,λ_ h=>nomatch h⟩,λf=>?_⟩
       ·rw[ad 9 (.inl U),m];rfl
       ·constructor
        ·rintro⟨c,z⟩;obtain⟨g,l⟩:=(ac b c).1 z;exact((C b).1 ⟨c,(G b c).1 g⟩).resolve_left (λa6=>l (QT.2 a6))
        ·intro Q;obtain⟨c,z⟩:=(C b).2 (.inr Q);exact⟨c,(ac b c).2 ⟨(G b c).2 z,λab=>I b (QT.1 ab) Q⟩⟩
       ·rw[V];exact⟨λh=>(nomatch h),λ⟨e,be⟩=>absurd (by rw[BQ.1 e]) be⟩
      |succ o=>
       simp only;have bd:o+1<(d++[a]).length:=by simp;omega
       obtain⟨S,b0,bV,bY,bR,br,bx,bA,bD,bG,i,W,b1,g,F,l,ao,a0,a1,ap,aq⟩:=oH h.ok o (2*key.length+1) 32 (s.ws 9) items blocks (Ci key) 0 72 T A O1 O1 n (d++[a]) p aE bd;have aw:i<br.length:=Ω F.len;have ae:BU S.nd=true:=by
        obtain⟨_,_,_,bg,_⟩:=IV h.ok F.rd;exact bg
       have bh:CV ((d++[a]).drop (o+1)) p=some a:=by
        unfold CV;rw[Zf O1];simp only[List.getLast?_append,List.getLast?_singleton,Option.some_or];rw[jM v]
       obtain⟨V,y⟩:=XP h.ok W _ _ _ _ _ _ _ (F.sub i l aw) a1 ap _ p a aq bh N w (λbs bt t1 t2=>aJ (o+1+bs) bt O1 (by simp at t1;omega) (by rw[D7]at t2;exact t2));obtain⟨an,rfl⟩:∃an,W=an+1:=⟨W-1,O1⟩;obtain⟨bw,bB,Q,bj,_⟩:=kH aq ap;have bi:(d++[a])[o+1]?=some bw:=by
        have:=congrArg (λbp=>bp[0]?) Q;simpa[D7]using this
       rw[g,bi];simp only;rw[bj,Anw ((Bh S.nd).1 ae).2.2.2.2.1 ao];simp only;rw[jM ae];obtain⟨_,x,bH,K,a7⟩:=Aq7 h n C I A F l ao aw a0 V;simp only at K;rw[<-y,K];simp only;rcases a7 with⟨rfl,rfl⟩|⟨rfl,bo,bk,bl,aW⟩
       ·simp only[if_true];exact⟨J.1,trivial,R,J.2⟩
       ·rw[ku U];simp only[if_true];exact⟨bo,trivial,R,bk,bl,aW⟩
     ·rw[ku N];simp only[if_true];exact⟨J.1,trivial,R,J.2⟩
   ·have P:CV (d++[a]) p=none:=by unfold CV;rw[Z];simp only;rw[ku v]
    rw[P];refine .inl ⟨rfl,λf t k=>?_⟩;rcases aD f t with e|e|⟨D,g,l⟩
    ·exact r.other f (.inl e) k
    ·exact r.other f (.inr e) k
    ·rw[l,E.cut]at k;exact r.below v _ g (E5 k)
end
def Md(ws:Nat->UInt64)(sh:Sh):St:={sh:=sh,ws:=ws,tk:=wordsAt ws (sh.table/8) sh.BO,hd:=List.replicate sh.BO 0}
def dV(s:St)(ws':Nat->UInt64):Prop:=∀j,(∀b a,Ej s b a->¬Hw b a j)->ws' j=s.ws j
def Fnd(X:Nat->Prop)(L:Nat)(s0:St)(items:List Kv)(ws':Nat->UInt64):Prop:=∃a:Nat->Prop,(∀b,X b->a b)/\Jj a L (Md ws' s0.sh) items/\Iu X s0 (Md ws' s0.sh)
section
variable{X:Nat->Prop}{L:Nat}{s0 sF s:St}{items its:List Kv}{ws':Nat->UInt64}
def Zt(ws:Nat->UInt64)(sh:Sh)(i:Nat):hdN (Md ws sh) i=0:=by
 unfold hdN Md;simp only[Bg,List.getElem?_replicate];split<;>rfl
def oL(ws:Nat->UInt64)(sh:Sh)(o d:Nat):¬Ej (Md ws sh) o d:=by
 rintro⟨c,b,_,a,_⟩;rw[Zt,Gg]at a;cases a
def dV.low(a:BG L s)(h:dV s ws'):∀j,j<16+s.sh.BO->ws' j=s.ws j:=λj e=>h j (λf d b c=>by
 have:=a.D5 (b.bounds a).1 c;omega)
def oM(b:BG L s)(h:dV s ws'):wordsAt ws' (s.sh.table/8) s.sh.BO=s.tk:=by
 apply List.ext_getElem
 ·simp[wordsAt,b.Rj]
 ·intro a e c;have d:a<s.sh.BO:=by rw[<-b.Rj];exact c
  rw[KX,b.sh.table,show 128/8+a=16+a by omega,h.low b (16+a) O1,b.tab a d,Bg,Ah c];rfl
def XQ(b:BG L s)(h:dV s ws'):BG L (Md ws' s.sh)/\(∀d c,AU (Md ws' s.sh) d c<->AU s d c)/\D6 s (Md ws' s.sh) (λ_=>True):=by
 have k:∀a,GZ (Md ws' s.sh) a=GZ s a:=λa=>by
  unfold GZ;rw[show(Md ws' s.sh).tk=s.tk from oM b h]
 have i:∀d c,AU (Md ws' s.sh) d c<->AU s d c:=λd c=>by
  unfold AU;simp only[k];exact Iff.rfl
 refine⟨⟨b.sh,b.L1,by rw[show(Md ws' s.sh).tk=s.tk from oM b h];exact b.Rj,by simp[Md],λa e=>by rw[k];exact b.tk a e,λa _=>.inl (Zt _ _ a),λa _=>.inr (.inl (Zt _ _ a)),λa n _ _=>by rw[Zt,Gg],λa e=>?_⟩,i,λd c _ f=>⟨(i d c).2 f,λj m=>h j (λp o g e=>?_)⟩⟩
 ·show ws' (16+a)=(Md ws' s.sh).tk.getD a 0;rw[show(Md ws' s.sh).tk=s.tk from oM b h,h.low b (16+a) (by have:a<s.sh.BO:=e;omega)];exact b.tab a e
 ·obtain⟨_,l⟩:=OY b g f;exact PM l (g.bounds b).2.2 (f.bounds b).2.2 e m
def Jj.again{s':St}(h:Jj X L s items)(l:BG L s')(u:∀o d,¬Ej s' o d)(k:D6 s s' (λ_=>True))(e:s'.ws 9=s.ws 9):Jj (λo=>(∃d,AU s' o d)/\((∃d,AU s o d)->X o)) L s' items:=by
 have t:∀o,(∃d,AU s o d)->∃d,AU s' o d:=λo⟨d,q⟩=>⟨d,(k o d trivial q).1⟩
 refine⟨l,u,?_,h.even⟩;rcases h.tree with⟨c,n,a⟩|⟨blocks,c,m,r,p,a⟩
 ·exact .inl ⟨e.trans c,n,λo=>⟨λi=>⟨i,λg=>(a o).1 g⟩,λh=>h.1⟩⟩
 ·refine .inr ⟨blocks,by rw[e];exact c,by rw[e];exact m.keep h.ok l k (λ_ _=>trivial),r,λo b f=>p o b (f.2 ((a o).2 (.inl b))),λo=>?_⟩;constructor
  ·intro i;by_cases j:o∈blocks
   ·exact .inl j
   ·exact .inr ⟨i,λg=>((a o).1 g).resolve_left j⟩
  ·rintro(b|f)
   ·exact t o ((a o).2 (.inl b))
   ·exact f.1
def Jj.taken(h:Jj X L s items){o:Nat}(b:X o):∃d,AU s o d:=by
 rcases h.tree with⟨_,_,a⟩|⟨_,_,_,_,_,a⟩
 ·exact(a o).2 b
 ·exact(a o).2 (.inr b)
def found(hF:Jj X L sF its)(c:Iu X s0 sF)(k:BG L s)(sh:s.sh=sF.sh)(p:D6 sF s (λ_=>True))(low:∀j,j<16->s.ws j=sF.ws j)(f:dV s ws'):Fnd X L s0 its ws':=by
 obtain⟨l,q,i⟩:=XQ k f;have m:s.sh=s0.sh:=sh.trans c.sh;rw[m]at l q i;have b:D6 sF (Md ws' s0.sh) (λ_=>True):=p.trans i;have e:∀j,j<16->(Md ws' s0.sh).ws j=sF.ws j:=λj a=>(f.low k j O1).trans (low j a)
 refine⟨_,λr g=>?_,hF.again l (oL _ _) b (e 9 U),⟨rfl,λj a n=>(e j a).trans (c.low j a n),c.keep.trans (b.mono λ_ _=>trivial)⟩⟩;obtain⟨d,o⟩:=hF.taken g;exact⟨⟨d,(b r d trivial o).1⟩,λ_=>g⟩
def GM(s:St):dV s s.ws:=λ_ _=>rfl
end
def Dn(Good:(Nat->UInt64)->Prop)(q:Ms):Prop:=∃a,q.pw=.down a/\∀ws',a ws'->Good ws'
def dW(Good:(Nat->UInt64)->Prop)(r:Ms×Int)(a:St×Int):Prop:=(∃lf,r=(⟨.up lf,a.1⟩,a.2))\/Dn Good r.1
def qi(lf:Int)(j:Jb):Jm:=⟨⟨.up lf,j.s⟩,j.made⟩
def Aj4(Good:(Nat->UInt64)->Prop)(r:Jm×UInt64×Int)(a:Jb×UInt64×Int):Prop:=(∃lf,r=(qi lf a.1,a.2))\/Dn Good r.1.s
section
variable{Good Ao4:(Nat->UInt64)->Prop}{q:Ms}{s:St}{lf:Int}
def Dn.mono(h:Dn Good q)(k:∀ws',Good ws'->Ao4 ws'):Dn Ao4 q:=by
 obtain⟨a,b,h⟩:=h;exact⟨a,b,λws' c=>k _ (h ws' c)⟩
def dX(h:Dn Good q)(N:Nat)(c:Nat->UInt64):Dn Good (JE q N c).1:=by
 obtain⟨a,b,h⟩:=h;refine⟨a,?_,h⟩;unfold JE;rw[b]
def vJ(h:Dn Good q)(i:Nat)(x:UInt64):Dn Good (Mc q i x).1:=by
 have a:=dX h 3 (Dt q.s.ws (q.s.sh.table/8+i) x);unfold Mc;split;rename_i d c b;rw[b]at a;split
 ·exact a
 ·exact a
def dY(h:Dn Good q)(off:Int):Dn Good (IM q off).1:=by
 unfold IM;split
 ·exact h
 ·rename_i a c _;split
  ·have b:=vJ h a (Az (FU (GZ q.s a) (Ba (hdN q.s a)) c).1);split;rename_i f e d;rw[d]at b;split<;>exact b
  ·exact h
def NG(h:Dn Good q)(off:Int):Dn Good (Dz q off).1:=by
 unfold Dz;split
 ·exact h
 ·split
  ·exact h
  ·split
   ·exact vJ h _ _
   ·exact h
def QM:∀(l:List Int){q:Ms},Dn Good q->Dn Good (KH q l)
 |[],_,h=>h
 |a::l,q,h=>QM l (q:=(Dz q a).1) (NG h a)
def RY:∀(l:List Int){q:Ms}(e:Int),Dn Good q->Dn Good (JF q l e).1
 |[],_,_,h=>h
 |a::l,q,_,h=>RY l (q:=(Dz q a).1) _ (NG h a)
def kL{j:Jm}(h:Dn Good j.s)(n:Nd):Dn Good (D8 j n).1.s:=by
 unfold D8;split
 ·exact h
 ·split
  ·exact h
  ·rename_i b e _;have a:=dX (q:=⟨j.s.pw,e⟩) (Good:=Good) (by obtain⟨f,c,h⟩:=h;exact⟨f,c,h⟩) (Lp (b/8) (DL n).length) (BX e.ws (b/8) (DL n));split;rename_i l k g;rw[g]at a;split
   ·have d:=dY a (b:Int);split;rename_i m c i;rw[i]at d;split<;>exact d
   ·exact a
def O9{j:Jm}(h:Dn Good j.s)(n:Nd)(b:UInt8)(a:UInt64)(e:Int):Dn Good (Gn j n b a e).1.s:=by
 unfold Gn;split
 ·exact h
 ·split
  ·exact kL h _
  ·exact h
def vK:∀(f:Nat){j:Jm},Dn Good j.s->∀(l:List UInt8)(a:UInt64),Dn Good (JO f j l a).1.s
 |0,_,h,_,_=>h
 |f+1,j,h,l,a=>by
  unfold JO;split
  ·exact kL h _
  ·have b:=vK f h (l.drop 16) a;split;rename_i e g d c;rw[c]at b;exact O9 b _ _ _ _
def Aaq{j:Jm}(h:Dn Good j.s)(e c:Int)(b:UInt64)(f:List Int):Dn Good (Eo j e c b f).1:=by
 unfold Eo;split
 ·exact QM _ h
 ·have a:=dX h 3 (Dt j.s.s.ws (c.toNat/8) b);split;rename_i i g d;rw[d]at a;split
  ·exact RY _ _ a
  ·exact QM _ a
def Aft{ws ws':Nat->UInt64}{j:Nat}{x:UInt64}(h:Half ws (Dt ws j x) ws'):ws'=ws\/ws'=Dt ws j x:=by
 have d:∀a,a≠j->ws' a=ws a:=λa b=>by
  rcases h a with c|c
  ·exact c
  ·rw[c];unfold Dt;rw[ku b]
 rcases h j with c|c
 ·refine .inl (funext λa=>?_);by_cases b:a=j
  ·rw[b];exact c
  ·exact d a b
 ·refine .inr (funext λa=>?_);by_cases b:a=j
  ·rw[b];exact c
  ·rw[d a b];unfold Dt;rw[ku b]
def Aar(N:Nat)(a:Nat->UInt64)(b:∀ws',Half s.ws a ws'->Good ws'):dW Good (JE ⟨.up lf,s⟩ N a) ({s with ws:=a},0):=by
 unfold JE;simp only;split
 ·by_cases c:fO lf N=0
  ·exact .inr ⟨_,by rw[jM c],λws' d=>b ws' (by rw[d];exact λ_=>.inr rfl)⟩
  ·exact .inl ⟨fO lf N,by rw[ku c]⟩
 ·exact .inr ⟨_,rfl,b⟩
def Ut(j:Nat)(x:UInt64)(h1:Good s.ws)(h2:Good (Dt s.ws j x)):dW Good (JE ⟨.up lf,s⟩ 3 (Dt s.ws j x)) ({s with ws:=Dt s.ws j x},0):=
 Aar 3 _ (λ_ h=>(Aft h).elim (λa=>a▸h1) (λa=>a▸h2))
def vM(i:Nat)(x:UInt64)(h1:Good s.ws)(h2:Good (Xq s i x).ws):dW Good (Mc ⟨.up lf,s⟩ i x) (Xq s i x,0):=by
 have h:=Ut (lf:=lf) (s.sh.table/8+i) x h1 h2;unfold Mc;rcases h with⟨a,h⟩|h
 ·simp only[h,if_true];exact .inl ⟨a,rfl⟩
 ·right;generalize JE ⟨.up lf,s⟩ 3 (Dt s.ws (s.sh.table/8+i) x)=b at h⊢;obtain⟨d,c⟩:=b;simp only at h⊢;split<;>exact h
def vN(off:Int)(h1:Good s.ws)(h2:Good (Lj s off).1.ws):dW Good (IM ⟨.up lf,s⟩ off) (Lj s off):=by
 unfold IM Lj at*;simp only;cases e:Iq s off with
 |none=>exact .inl ⟨lf,rfl⟩
 |some g=>
  obtain⟨a,b⟩:=g;rw[e]at h2;simp only at h2⊢;cases f:EM (hdN s a) b
  ·exact .inl ⟨lf,rfl⟩
  ·rw[f]at h2;simp only[if_true]at h2⊢;rcases vM (lf:=lf) a (Az (FU (GZ s a) (Ba (hdN s a)) b).1) h1 h2 with⟨c,h⟩|h
   ·rw[h];exact .inl ⟨c,rfl⟩
   ·right;generalize Mc ⟨.up lf,s⟩ a (Az (FU (GZ s a) (Ba (hdN s a)) b).1)=d at h⊢;obtain⟨j,i⟩:=d;simp only at h⊢;split<;>exact h
def WU(off:Int)(h1:Good s.ws)(h2:Good (FM s off).1.ws):dW Good (Dz ⟨.up lf,s⟩ off) (FM s off):=by
 unfold Dz FM at*;simp only;cases e:Iq s off with
 |none=>exact .inl ⟨lf,rfl⟩
 |some f=>
  obtain⟨a,b⟩:=f;rw[e]at h2;simp only at h2⊢;cases c:(Em (hdN s a) b).2
  ·rw[c]at h2;simp only[Bool.false_eq_true,if_false]at h2⊢;cases d:(Em (GZ s a) b).2
   ·exact .inl ⟨lf,rfl⟩
   ·rw[d]at h2;exact vM a _ h1 h2
  ·exact .inl ⟨lf,rfl⟩
def kM:∀(l:List Int){s:St}{lf:Int},(∀d,Good (Et s (l.take d)).ws)->(∃a,KH ⟨.up lf,s⟩ l=⟨.up a,Et s l⟩)\/Dn Good (KH ⟨.up lf,s⟩ l)
 |[],s,lf,_=>.inl ⟨lf,rfl⟩
 |b::l,s,lf,h=>by
  show(∃a,KH (Dz ⟨.up lf,s⟩ b).1 l=⟨.up a,Et (FM s b).1 l⟩)\/Dn Good (KH (Dz ⟨.up lf,s⟩ b).1 l);rcases WU (s:=s) (lf:=lf) b (h 0) (h 1)with⟨a,c⟩|c
  ·rw[c];exact kM l (λd=>h (d+1))
  ·exact .inr (QM l c)
def dZ:∀(l:List Int){s:St}{lf:Int}(e:Int),(∀a,Good (Et s (l.take a)).ws)->dW Good (JF ⟨.up lf,s⟩ l e) (KC s l e)
 |[],s,lf,e,_=>.inl ⟨lf,rfl⟩
 |b::l,s,lf,e,h=>by
  unfold JF KC;rcases WU (s:=s) (lf:=lf) b (h 0) (h 1)with⟨c,e⟩|e
  ·rw[e];exact dZ l _ (λa=>h (a+1))
  ·exact .inr (RY l _ e)
end
def eu:∀(l:List Int)(s:St)(e:Int),(KC s l e).1=Et s l
 |[],_,_=>rfl
 |a::l,s,e=>by
  unfold KC;exact eu l _ _
def Aas(s:St)(off:Int):(FM s off).2=0\/(FM s off).2=7:=by
 unfold FM;split
 ·exact .inr rfl
 ·split
  ·exact .inl rfl
  ·split
   ·exact .inl rfl
   ·exact .inr rfl
def YC:∀(l:List Int)(s:St)(e:Int),e=0\/e=7->(KC s l e).2=0\/(KC s l e).2=7
 |[],_,_,h=>h
 |a::l,s,e,h=>by
  unfold KC;refine YC l _ _ ?_;split
  ·exact Aas s a
  ·exact h
section
variable{X:Nat->Prop}{L:Nat}{s0 s:St}{items:List Kv}{j:Jb}{B:List Nat}
def vO{w a:Nat}(h:EM w a=false):(Em w a).2=false:=by unfold Em;rw[h];rfl
def Afu(f:BG L s)(n:∀b a,¬Ej s b a)(off:Int):BG L (FM s off).1/\(∀b a,¬Ej (FM s off).1 b a)/\(FM s off).1.sh=s.sh/\(∀j,j<16->(FM s off).1.ws j=s.ws j)/\D6 (FM s off).1 s (λ_=>True):=by
 have o:∀d:Int,BG L (s,d).1/\(∀b a,¬Ej (s,d).1 b a)/\(s,d).1.sh=s.sh/\(∀j,j<16->(s,d).1.ws j=s.ws j)/\D6 (s,d).1 s (λ_=>True):=λd=>⟨f,n,rfl,λ_ _=>rfl,D6.refl _ _⟩
 cases g:Iq s off with
 |none=>
  rw[show FM s off=(s,7)by unfold FM;rw[g]];exact o 7
 |some D=>
  obtain⟨e,c⟩:=D;obtain⟨k,H,F,A⟩:=uT f g;have z:EM (hdN s e) c=false:=by
   cases i:EM (hdN s e) c with
   |false=>rfl
   |true=>exact absurd ⟨e,c,k,i,rfl,rfl⟩ (n _ _)
  cases m:EM (GZ s e) c with
  |false=>
   rw[show FM s off=(s,7)by unfold FM;rw[g];simp only[vO z,vO m,Bool.false_eq_true,if_false]];exact o 7
  |true=>
   obtain⟨q,B,x,G⟩:=f.Qc k m;have C:AU s (Df s.sh e q c) q:=⟨e,c,k,m,B.class,rfl⟩;rw[A,x];obtain⟨I,v,E,u,y,p,t⟩:=Zp f C;rw[v];refine⟨E,λb a i=>n b a ((O8 y u b a).1 i),u,λj l=>p j (.inl l),λb a _ r=>⟨((t b a).1 r).1,λj l=>?_⟩⟩;have w:=((t b a).1 r).1;exact(p j (.inr (f.D5 (w.bounds f).1 l))).symm
def VB:∀(l:List Int){s:St},BG L s->(∀c a,¬Ej s c a)->BG L (Et s l)/\(∀c a,¬Ej (Et s l) c a)/\(Et s l).sh=s.sh/\(∀j,j<16->(Et s l).ws j=s.ws j)/\D6 (Et s l) s (λ_=>True)
 |[],s,d,b=>⟨d,b,rfl,λ_ _=>rfl,D6.refl _ _⟩
 |t::l,s,d,b=>by
  obtain⟨f,g,i,k,m⟩:=Afu d b t;obtain⟨n,o,p,q,r⟩:=VB l f g;exact⟨n,o,p.trans i,λj e=>(q j e).trans (k j e),r.trans m⟩
def eF(l:List Int)(k:Nat)(o:BG L s)(m:∀n f,¬Ej s n f):BG L (Et s (l.take k))/\(Et s (l.take k)).sh=(Et s l).sh/\(∀j,j<16->(Et s (l.take k)).ws j=(Et s l).ws j)/\D6 (Et s l) (Et s (l.take k)) (λ_=>True):=by
 obtain⟨a,b,p,q,r⟩:=VB (l.take k) o m;obtain⟨t,u,c,d,e⟩:=VB (l.drop k) a b;have g:Et s l=Et (Et s (l.take k)) (l.drop k):=by
  unfold Et;rw[<-List.foldl_append,List.take_append_drop]
 rw[g];exact⟨a,c.symm,λj i=>(d j i).symm,e⟩
def KZ(g:Grown L s0 j B)(n:Nd):∃c,Grown L s0 (FV j n).1 c:=by
 cases b:BU n with
 |false=>exact⟨B,by rw[show FV j n=(j,0,5)by unfold FV;rw[b];rfl];exact g⟩
 |true=>
  rcases Pg g b with a|⟨e,f,i,a,_,d,_⟩
  ·exact⟨B,by rw[a];exact g⟩
  ·exact⟨_,by rw[a];exact d⟩
def PO(g:Grown L s0 j B)(n:Nd)(c:UInt8)(b:UInt64)(e:Int):∃a,Grown L s0 (Iw j n c b e).1 a:=by
 unfold Iw;split
 ·exact⟨B,g⟩
 ·split
  ·exact KZ g _
  ·exact⟨B,g⟩
def KL:∀(f:Nat){j:Jb}{B:List Nat},Grown L s0 j B->∀(l:List UInt8)(b:UInt64),∃d,Grown L s0 (Nw f j l b).1 d
 |0,j,B,a,_,_=>⟨B,a⟩
 |f+1,j,B,a,l,b=>by
  unfold Nw;split
  ·exact KZ a _
  ·obtain⟨g,c⟩:=KL f a (l.drop 16) b;split;rename_i k m i e;rw[e]at c;exact PO c _ _ _ _
def YD(h:Jj X L s0 items)(g:Grown L s0 j B):Fnd X L s0 items j.s.ws:=found h (Iu.refl _ _) g.ok g.sh g.keep g.low (GM _)
def Uu(h:Jj X L s0 items)(g:Grown L s0 j B)(lf:Int)(n:Nd):Aj4 (Fnd X L s0 items) (D8 (qi lf j) n) (FV j n):=by
 cases l:BU n with
 |false=>
  exact .inl ⟨lf,by rw[show FV j n=(j,0,5)by unfold FV;rw[l];rfl,show D8 (qi lf j) n=(qi lf j,0,5)by unfold D8;rw[l];rfl]⟩
 |true=>
  cases o:DT j.s (Dp n)with
  |none=>exact .inl ⟨lf,by rw[show FV j n=(j,0,6)by unfold FV;rw[l,o];rfl,show D8 (qi lf j) n=(qi lf j,0,6)by unfold D8;rw[l];simp only[qi,o];rfl]⟩
  |some S=>
   obtain⟨a,d⟩:=S;obtain⟨R,z,T,_,H,_,_,M⟩:=OZ g.ok (O6 n) o;have I:=Ju n;have x:∀ws',(∀b,¬Hw a (Dp n) b->ws' b=d.ws b)->Fnd X L s0 items ws':=λws' J=>by
    refine found h (Iu.refl _ _) R (T.trans g.sh) (λA t _ K=>?_) (λb e=>by rw[z];exact g.low b e) (λb e=>J b (e _ _ H));obtain⟨N,O1⟩:=g.keep A t trivial K;exact⟨(M A t).2 N,λb e=>by rw[z];exact O1 b e⟩
   have y:∀b,¬Hw a (Dp n) b->BX d.ws (a/8) (DL n) b=d.ws b:=λb e=>by
    unfold BX;rw[ku];rintro⟨D,u⟩;exact e ⟨D,by rw[I]at u;exact u⟩
   have v:FV j n=(match Lj {d with ws:=BX d.ws (a/8) (DL n)} a with
    |(f,c)=>if c=0 then(⟨f,j.made++[(a:Int)]⟩,Az a,0)else(⟨f,j.made++[(a:Int)]⟩,0,c)):=by unfold FV;rw[l,o];rfl
   have F:D8 (qi lf j) n=(match JE ⟨.up lf,d⟩ (Lp (a/8) (DL n).length) (BX d.ws (a/8) (DL n))with
    |(p,q)=>if q=0 then
       match IM p a with
       |(f,c)=>if c=0 then(⟨f,j.made++[(a:Int)]⟩,Az a,0)else(⟨f,j.made++[(a:Int)]⟩,0,c)
     else(⟨p,j.made++[(a:Int)]⟩,0,q)):=by unfold D8;rw[l];simp only[qi,o];rfl
   have G:(FV j n).1.s=(Lj {d with ws:=BX d.ws (a/8) (DL n)} a).1:=by
    rw[v];generalize Lj {d with ws:=BX d.ws (a/8) (DL n)} a=i;obtain⟨f,c⟩:=i;simp only;split<;>rfl
   obtain⟨U,C⟩:=KZ g n;have w:=YD h C;rw[G]at w;rw[F,v];rcases Aar (Good:=Fnd X L s0 items) (lf:=lf) (Lp (a/8) (DL n).length) (BX d.ws (a/8) (DL n)) (λws' E=>x ws' (λb e=>by
    rcases E b with c|c
    ·exact c
    ·rw[c];exact y b e))with⟨P,k⟩|k
   ·rw[k];simp only[if_true];rcases vN (lf:=P) (a:Int) (x _ (λb e=>y b e)) w with⟨Q,m⟩|m
    ·rw[m];left;refine⟨Q,?_⟩;simp only;split<;>rfl
    ·right;generalize IM _ (a:Int)=i at m⊢;obtain⟨f,c⟩:=i;simp only at m⊢;split<;>exact m
   ·right;generalize JE _ _ _=i at k⊢;obtain⟨p,q⟩:=i;simp only at k⊢;split
    ·have r:=dY k (a:Int);generalize IM p (a:Int)=i at r⊢;obtain⟨f,c⟩:=i;simp only at r⊢;split<;>exact r
    ·exact k
def Uw(h:Jj X L s0 items)(g:Grown L s0 j B)(lf:Int)(n:Nd)(b:UInt8)(a:UInt64)(e:Int):Aj4 (Fnd X L s0 items) (Gn (qi lf j) n b a e) (Iw j n b a e):=by
 unfold Gn Iw;split
 ·exact .inl ⟨lf,rfl⟩
 ·split
  ·exact Uu h g lf _
  ·exact .inl ⟨lf,rfl⟩
def WV(h:Jj X L s0 items):∀(f:Nat){j:Jb}{B:List Nat},Grown L s0 j B->∀(lf:Int)(l:List UInt8)(a:UInt64),Aj4 (Fnd X L s0 items) (JO f (qi lf j) l a) (Nw f j l a)
 |0,j,B,c,lf,_,_=>.inl ⟨lf,rfl⟩
 |f+1,j,B,c,lf,l,a=>by
  unfold JO Nw;split
  ·exact Uu h c lf _
  ·obtain⟨i,d⟩:=KL f c (l.drop 16) a;rcases WV h f c lf (l.drop 16) a with⟨g,b⟩|b
   ·rw[b];exact Uw h d g _ _ _ _
   ·right;split;rename_i m n k e;rw[e]at b;exact O9 b _ _ _ _
def Aau(g:Grown L s0 j B)(x:Nd)(rest:List UInt8)(d:UInt64):∃f,Grown L s0 (Sj j x rest d).1 f:=by
 unfold Sj;split
 ·obtain⟨b,a⟩:=KL (rest.length+1) g (rest.drop (common x.pre rest+1)) d;split;rename_i l m i c;rw[c]at a;exact PO a _ _ _ _
 ·obtain⟨b,a⟩:=KZ g {x with pre:=x.pre.drop (common x.pre rest+1)};split;rename_i l m i c;rw[c]at a;split
  ·exact PO a _ _ _ _
  ·split
   ·exact⟨b,a⟩
   ·split
    ·obtain⟨n,e⟩:=KL (rest.length+1) a (rest.drop (common x.pre rest+1)) d;split;rename_i q o p k;rw[k]at e;exact PO e _ _ _ _
    ·exact⟨b,a⟩
def Aj5(h:Jj X L s0 items)(g:Grown L s0 j B)(lf:Int)(x:Nd)(rest:List UInt8)(b:UInt64):Aj4 (Fnd X L s0 items) (Jf (qi lf j) x rest b) (Sj j x rest b):=by
 unfold Jf Sj;split
 ·obtain⟨m,d⟩:=KL (rest.length+1) g (rest.drop (common x.pre rest+1)) b;rcases WV h (rest.length+1) g lf (rest.drop (common x.pre rest+1)) b with⟨e,a⟩|a
  ·rw[a];exact Uw h d e _ _ _ _
  ·right;split;rename_i k l i f;rw[f]at a;exact O9 a _ _ _ _
 ·obtain⟨m,d⟩:=KZ g {x with pre:=x.pre.drop (common x.pre rest+1)};rcases Uu h g lf {x with pre:=x.pre.drop (common x.pre rest+1)}with⟨e,a⟩|a
  ·rw[a];generalize FV j {x with pre:=x.pre.drop (common x.pre rest+1)}=q at*;obtain⟨k,l,i⟩:=q;simp only at d⊢;split
   ·exact Uw h d e _ _ _ _
   ·split
    ·exact .inl ⟨e,rfl⟩
    ·split
     ·obtain⟨r,n⟩:=KL (rest.length+1) d (rest.drop (common x.pre rest+1)) b;rcases WV h (rest.length+1) d e (rest.drop (common x.pre rest+1)) b with⟨p,c⟩|c
      ·rw[c];exact Uw h n p _ _ _ _
      ·exact .inr (O9 c _ _ _ _)
     ·exact .inl ⟨e,rfl⟩
  ·right;split;rename_i k l i f;rw[f]at a;split
   ·exact O9 a _ _ _ _
   ·split
    ·exact a
    ·split
     ·have c:=vK (rest.length+1) a (rest.drop (common x.pre rest+1)) b;split;rename_i u s t o;rw[o]at c;exact O9 c _ _ _ _
     ·exact a
end
