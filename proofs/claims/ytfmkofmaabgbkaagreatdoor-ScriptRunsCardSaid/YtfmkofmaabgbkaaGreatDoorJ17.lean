import Derived.Test.YtfmkofmaabgbkaaGreatDoorJ13
import Derived.Test.YtfmkofmaabgbkaaGreatDoorJ16
set_option linter.defProp false
set_option maxHeartbeats 32000000
set_option maxRecDepth 100000
open Go.Value renaming ownBlock->AV
open Go.Lib renaming hid->Ac
open Nat renaming le_refl->Ae
open List renaming getElem?_eq_getElem->Ah,map_drop->Oo,length_drop->AQ
open Go.Value renaming slice->fD,int->fP
open Go.IntKind renaming i64->gZ,u64->ig
namespace Go.Proofs.YtfmkofmaabgbkaaGreatDoor
open Go.RowKit
open Go.Proofs.Tryz
def jQ(x:Nd)(b:UInt8)(a:UInt64):JA x b a=XC x b a:=rfl
def Ae8{w a:World}{base g:Nat}{e:TypeId}{k l m n:Value}(h:CB a g e [k,l,m,n])(o:Below base w a)(j:base<=g)(b c d f:Value):
 ∃i,i=(((a.setCell (Φ g) b).setCell (Δ g 1) c).setCell (Δ g 2) d).setCell (Δ g 3) f/\CB i g e [b,c,d,f]/\Below base w i/\Kept a i (some g):=
 ⟨_,rfl,(((h.AX 0 b).AX 1 c).AX 2 d).AX 3 f,
   (((o.setCell (p:=Φ g) j b).setCell (p:=Δ g 1) j c).setCell (p:=Δ g 2) j d).setCell (p:=Δ g 3) j f,
   (((Kept.AX a g 0 b).trans' (Kept.AX _ g 1 c)).trans' (Kept.AX _ g 2 d)).trans' (Kept.AX _ g 3 f)⟩
def L8{w w':World}{B g k n:Nat}{e:TypeId}{v:Value}{xs:List Value}(h:w.ownsRow B e k v n xs)(b:Kept w w' (some g))(j:g<B):w'.ownsRow B e k v n xs:=by
 refine Ff h b (.inl ?_);rcases h.2 with⟨a,_⟩|⟨f,c,d,a,i,_⟩
 ·subst a;simp[AV]
 ·subst a;simp[AV];omega
section
variable{w w':World}{base jb x d p L:Nat}{j:Jm}{G:Nat->Prop}
def I7.of_below{r:Jm×UInt64×Int}{a:World}(i:η w a){e:Ending}(h:I7 r base jb x d p L G a e w'):I7 r base jb x d p L G w e w':=by
 obtain⟨c,b,f,g⟩:=h;exact⟨c,b,f,(AL.of_below i).trans g⟩
def Um(h:FY w base jb x d p L j G)(a:Nd)(l m n:Option Addr)(v y z:Nat)(c:UInt8)(b:UInt64)(e:Int)(aD:a.pre.length<=100)(aE:a.labels.length<=100)(aF:a.kids.length<=100)
 (h1:Bs w l a.pre.length a.pre)(h2:Bs w m a.labels.length a.labels)(h3:Ws w n a.kids.length a.kids)(aw:j.made.length<=1000):
 Calls prog 189 #[ptr0 jb,.agg #[fD l a.pre.length v,fP ig (a.val.toNat:Int),fD m a.labels.length y,fD n a.kids.length z],fP .u8 (c.toNat:Int),fP ig (b.toNat:Int),fP gZ e] w (I7 (Gn j a c b e) base jb x d p L G w):=by
 obtain⟨P,I,aa,ab,ac,ad,r,aJ⟩:=Ahi w 174 (fD l a.pre.length v) (fP ig (a.val.toNat:Int)) (fD m a.labels.length y) (fD n a.kids.length z);have A:CB P w.heap.size 174 [fD l a.pre.length v,fP ig (a.val.toNat:Int),fD m a.labels.length y,fD n a.kids.length z]:=I▸heap_alloc_new _ _;have t:=Ac I;have M:=Ac h;have B:=Ac r;by_cases J:e=0
 ·subst J;have E:=h1.below r;have F:=h2.below r;have H:=h3.below r;clear h1 h2 h3 h I r;cases s:XC a c b with
  |false=>
   have g:Hid (Gn j a c b 0=(j,0,5)):=Ac (by unfold Gn;rw[ku Θ,jQ,s];rfl);have o:=Ac (Acr l m n a.pre.length v a.labels.length y a.kids.length z a c b P O1 O1 O1 E F H s);unfold PZ at o;clear s E F H;go_enter func189,ntmps189
   go_wp2_with fail
   rw[<-t.out];clear t;refine o.mono ?_;rintro e az⟨rfl,i⟩;have f:=A.ξ i;have C:=Ac (τ B.out i);clear aa ab ac ad A i o;obtain⟨am,an,ao,ap,f0,f1,f2,f3⟩:=CS f;have D:=Ac f;clear f
   go_wp2_with fail
   go_ret2;refine⟨by rw[g.out];rfl,G,?_,?_⟩
   ·rw[g.out];obtain⟨W,q,-,k,-⟩:=Ae8 D.out C.out (Ae _) (fD none 0 0) (fP ig 0) (fD none 0 0) (fD none 0 0);rw[<-q];exact M.below k
   ·obtain⟨W,q,-,k,-⟩:=Ae8 D.out C.out (Ae _) (fD none 0 0) (fP ig 0) (fD none 0 0) (fD none 0 0);rw[<-q];exact AL.of_below k
  |true=>
   have g:Hid (Gn j a c b 0=D8 j (NC a c b)):=Ac (by unfold Gn;rw[ku Θ,jQ,s];rfl);have o:=Ac (uD l m n a.pre.length v a.labels.length y a.kids.length z a c b P O1 O1 O1 E F H s);have Q:(NC a c b).pre.length<=1000/\(NC a c b).labels.length<=1000/\(NC a c b).kids.length<=1000:=by
    unfold NC ins;simp;omega
   generalize NC a c b=u at*;clear s E F H;go_enter func189,ntmps189
   go_wp2_with fail
   rw[<-t.out];clear t;refine o.mono ?_;rintro e az⟨⟨R,X,S,Y,T,Z,rfl,ae,ah,al⟩,i⟩;have f:=A.ξ i;have C:=Ac (τ B.out i);have N:=Ac (And.intro ae (And.intro ah al));clear aa ab ac ad A i o ae ah al;obtain⟨am,an,ao,ap,f0,f1,f2,f3⟩:=CS f;have D:=Ac f;clear f
   go_wp2_with fail
   obtain⟨W,q,V,k,K⟩:=Ae8 D.out C.out (Ae _) (fD R u.pre.length X) (fP ig (u.val.toNat:Int)) (fD S u.labels.length Y) (fD T u.kids.length Z);rw[<-q];have av:=Ac (MW (M.below k) u R S T X Y Z Q.1 Q.2.1 Q.2.2 (CQ (L8 N.1 K O1)).2 (CQ (L8 N.2.1 K O1)).2 (CQ (L8 N.2.2 K O1)).2 aw);have aq:=Ac k;obtain⟨am,an,ao,ap,f0,f1,f2,f3⟩:=CS V;clear k K V q
   first
    |go_wp2_with fail
    |skip
   refine av.mono ?_;rintro e aL⟨rfl,U⟩;have ar:=Ac U;clear U
   go_wp2_with fail
   go_ret2;rw[g.out];exact(I7.of_below aq.out ⟨rfl,ar.out⟩)
 ·have g:Hid (Gn j a c b e=(j,0,e)):=Ac (by unfold Gn;rw[jM J]);have t1:(e !=0)=true:=by rw[bne_iff_ne];exact J
  clear h1 h2 h3 h I r J;go_enter func189,ntmps189
  go_wp2_with fail
  rw[<-t.out];go_ret2;refine⟨by rw[g.out];rfl,G,?_,AL.of_below B.out⟩;rw[g.out];exact M.below B.out
end
section
variable{base jb x d p L:Nat}
def Hu{w:World}{G:Nat->Prop}{A:Option Addr}{l:List UInt8}(h:KT w G A l.length (l.map bv))(k:Nat)(c:k<l.length):∃a b,A=some (Δ a b)/\a<w.heap.size/\w.cell? (Δ a (b+k))=some (fP .u8 ((l.getD k 0).toNat:Int)):=by
 obtain⟨a,b,d,e,f⟩:=h.1.2 O1;refine⟨a,b,d,e,?_⟩;rw[f k c,List.getElem?_map,Ah c,List.getD_eq_getElem?_getD,Ah c];rfl
def WM:∀(f:Nat)(w:World)(j:Jm)(G:Nat->Prop)(l:List UInt8)(a:UInt64)(A:Option Addr)(c:Nat),FY w base jb x d p L j G->KT w G A l.length (l.map bv)->l.length<=c->l.length<f->l.length<=100->j.made.length+f<=1000->
 Calls prog 157 #[ptr0 jb,fD A l.length c,fP ig (a.toNat:Int)] w (I7 (JO f j l a) base jb x d p L G w)
 |0,w,j,G,l,a,A,c,h,e,K,M,ab,ac=>absurd M O1
 |f+1,w,j,G,l,a,A,c,h,e,K,M,ab,ac=>by
  by_cases I:l.length<=15
  ·have o:Hid (JO (f+1) j l a=D8 j ⟨l,a,[],[]⟩):=Ac (by rw[JO,jM I]);have W:=Ac (MW h ⟨l,a,[],[]⟩ A none none c 0 0 (by simp only;omega) Θ Θ e.1 Rd.nil Rd.nil O1);have t1:decide ((l.length:Int)<=15)=true:=decide_eq_true O1;clear h e;go_enter func157,ntmps157
   go_wp2_with fail
   refine W.mono ?_;rintro H g⟨rfl,N⟩;have X:=Ac N;clear N
   go_wp2_with fail
   go_ret2;rw[o.out];exact⟨rfl,X.out⟩
  ·have t1:decide ((l.length:Int)<=15)=false:=decide_eq_false O1;obtain⟨i,m,rfl,am,-⟩:=Hu e 15 O1;have hcut:=e.cut 16 O1 K;rw[<-Oo,show l.length-16=(l.drop 16).length by simp]at hcut;have b:=WM f w j G (l.drop 16) a _ (c-16) h hcut (by simp;omega) (by simp;omega) (by simp;omega) O1;rw[show(l.drop 16).length=l.length-16 by simp]at b;obtain⟨⟨C,D,u⟩,B⟩:∃ae,JO f j (l.drop 16) a=ae:=⟨_,rfl⟩;have Q:=MV f j (l.drop 16) a;have o:Hid (JO (f+1) j l a=Gn C ⟨l.take 15,0,[],[]⟩ (l.getD 15 0) D u):=Ac (by rw[JO,ku I,B]);rw[B]at b Q;simp only at Q;have b:Hid (∀q n,n=c-16->q=(if c=16 then some ((Δ i m):Addr)else some (Δ i (m+16)))->Calls prog 157 #[ptr0 jb,fD q (l.length-16) n,fP ig (a.toNat:Int)] w (I7 (C,D,u) base jb x d p L G w)):=Ac (λq n s t=>by subst s t;exact b);have Z:=Ac e;clear h e hcut B;go_enter func157,ntmps157
   go_wp2_with fail
   all_goals(refine(b.out _ _ O1 (by split<;>first|rfl|omega)).mono ?_)
   all_goals(rintro H g⟨rfl,U,P,z⟩)
   all_goals(clear b)
   all_goals(have v:=Z.moved z)
   all_goals(obtain⟨al,aw,r,ah,an⟩:=Hu v 15 O1)
   all_goals(injection r with r;injection r with s t;subst s t)
   all_goals(have y:(l.take 15).length=15:=by simp;omega)
   all_goals(have R:KT g U (some (Δ i m)) 15 ((l.take 15).map bv):=by have:=v.take 15 O1;rwa [<-List.map_take]at this)
   all_goals(have k:=λ(F:World)(J:η g F)=>Um (P.below J) ⟨l.take 15,0,[],[]⟩ (some (Δ i m)) none none 15 0 0 (l.getD 15 0) D u (by show(l.take 15).length<=100;omega) Θ Θ (by show Rd F _ (l.take 15).length _;rw[y];exact(R.below J).1) Rd.nil Rd.nil (by show C.made.length<=1000;omega))
   all_goals(replace k:=Ac k)
   all_goals(rw[y]at k)
   all_goals(have Y:=Ac z)
   all_goals(generalize l.getD 15 0=av at*)
   all_goals(generalize l.take 15=ar at*)
   all_goals(clear P z v b y R)
   all_goals(have ad:(15:Int)<(l.length:Int):=O1)
   all_goals(have ao:decide ((15:Int)<(l.length:Int))=true:=decide_eq_true ad)
   all_goals(have ap:15<l.length:=O1)
   all_goals(have aq:15<=c:=O1)
   all_goals(go_wp2_with fail)
   all_goals(go_region_with(go_at_call 189;go_loud(refine(k.out _ ((Dr.drew g).below _)).mono ?_;rintro H az⟨rfl,aa⟩)))
   all_goals(obtain⟨V,S,T⟩:=aa)
   all_goals(have E:=Ac (And.intro S (Y.out.trans ((AL.of_below ((Dr.drew g).below _)).trans T))))
   all_goals(clear S T)
   all_goals(go_wp2_with fail)
   all_goals(go_ret2)
   all_goals(rw[o.out])
   all_goals(exact⟨rfl,V,E.out.1,E.out.2⟩)
end
section
variable{base jb x d p L:Nat}
def bT.reads{w:World}{G:Nat->Prop}{b c d:Option Addr}{p e q j r k:Nat}{v:Value}{a:Nd}(h:bT w G (fD b p e) v (fD c q j) (fD d r k) a):
 KT w G b a.pre.length (a.pre.map bv)/\KT w G c a.labels.length (a.labels.map bv)/\KT w G d a.kids.length (a.kids.map wv)/\a.pre.length<=e:=by
 obtain⟨_,_,_,_,_,_,l,_,m,n,o,s,t,u⟩:=h;injection l with f x g
 injection m with i y z
 injection n with d1 d2 d3
 subst f g i d1;exact⟨s,t,u,o⟩
def KT.rest{w:World}{G:Nat->Prop}{b off c k n:Nat}{l:List UInt8}(h:KT w G (some (Δ b off)) n (l.map bv))(e:n=l.length)(f:k<=l.length)(d:l.length<=c){P:Option Addr}(a:P=(if c=k then some (Δ b off)else some (Δ b (off+k)))):
 KT w G P (l.drop k).length ((l.drop k).map bv):=by
 subst e a;have:=h.cut k O1 d;rw[Oo,AQ];exact this
def Ae9{w:World}{j:Jm}{G:Nat->Prop}(h:FY w base jb x d p L j G)(a:Nd)(f i k:Option Addr)(g m n:Nat)(off r:Int)(lb:UInt8)(rest:List UInt8)(A:Option Addr)(c:Nat)(o:UInt64)
 (P:bT w G (fD f a.pre.length g) (fP ig (a.val.toNat:Int)) (fD i a.labels.length m) (fD k a.kids.length n) a)(aZ:a.pre.length<=100)(a0:a.labels.length<=100)(a1:a.kids.length<=100)
 (q:KT w G A rest.length (rest.map bv))(a6:rest.length<=c)(bh:rest.length<=100)(bg:j.made.length<=500)(V:common a.pre rest=a.pre.length)(T:common a.pre rest<rest.length):
 Calls prog 159 #[ptr0 jb,.agg #[fD f a.pre.length g,fP ig (a.val.toNat:Int),fD i a.labels.length m,fD k a.kids.length n,fP gZ off,fP .u8 (lb.toNat:Int),fP gZ r],fD A rest.length c,fP ig (o.toNat:Int)] w (I7 (Jf j a rest o) base jb x d p L G w):=by
 have t:η w (w.alloc (.cells #[fD f a.pre.length g,fP ig (a.val.toNat:Int),fD i a.labels.length m,fD k a.kids.length n,fP gZ off,fP .u8 (lb.toNat:Int),fP gZ r] 176)):=(Below.refl _ _).alloc (Ae _) _;have s:CB (w.alloc (.cells #[fD f a.pre.length g,fP ig (a.val.toNat:Int),fD i a.labels.length m,fD k a.kids.length n,fP gZ off,fP .u8 (lb.toNat:Int),fP gZ r] 176)) w.heap.size 176 [fD f a.pre.length g,fP ig (a.val.toNat:Int),fD i a.labels.length m,fD k a.kids.length n,fP gZ off,fP .u8 (lb.toNat:Int),fP gZ r]:=heap_alloc_new _ _;obtain⟨ah,Q⟩:=ε (w.alloc (.cells #[fD f a.pre.length g,fP ig (a.val.toNat:Int),fD i a.labels.length m,fD k a.kids.length n,fP gZ off,fP .u8 (lb.toNat:Int),fP gZ r] 176));rw[<-Q]at t s;have ad:=Ac Q;obtain⟨M,W,rfl,bd,-⟩:=Hu q _ T;obtain⟨b,u⟩:=ε (common a.pre rest);rw[<-u]at V T;obtain⟨⟨av,aw,am⟩,v⟩:∃a7,JO (rest.length+1) j (rest.drop (b+1)) o=a7:=⟨_,rfl⟩;have ap:=MV (rest.length+1) j (rest.drop (b+1)) o;rw[v]at ap;simp only at ap;have aV:Hid (Jf j a rest o=Gn av a (rest.getD b 0) aw am):=Ac (by rw[Jf,<-u,jM V,v]);have J:=Ac (λ(l:World)(e:η w l)(ae:Option Addr)(Z:Nat)(bc:Z=c-(b+1))(a4:ae=(if c=b+1 then some ((Δ M W):Addr)else some (Δ M (W+(b+1)))))=>WM (rest.length+1) l j G (rest.drop (b+1)) o ae Z (h.below e) ((q.below e).rest rfl O1 a6 a4) (by rw[AQ];omega) (by rw[AQ];omega) (by rw[AQ];omega) O1);rw[v,AQ]at J;have ab:=Ac (λ(l:World)(e:η w l)=>MH f (some (Δ M W)) a.pre.length rest.length g c a.pre rest l O1 O1 (P.reads.1.below e).1 (q.below e).1);rw[<-u]at ab;have aR:=Ac P;have aW:=Ac q;have a8:=Ac h.lt;clear h P q v Q;have t1:((b:Int)==(a.pre.length:Int))=true:=by rw[beq_iff_eq];omega
 have bi:IntKind.i64.wrap ((b:Int)+1)=(b:Int)+1:=wrap64 _ O1 O1;obtain⟨y,z,B,C,D,E,H⟩:=EJ s;clear u V;go_enter func159,ntmps159
 go_wp2_with fail
 rw[<-ad.out];clear ad;refine(ab ah t).mono ?_;rintro al a9⟨rfl,S⟩;have an:=τ t (S.below ah.heap.size);have I:=s.ξ (S.below _);have aa:=Ac an;have aX:=Ac I;clear s t S y z B C D E H an;obtain⟨y,z,B,C,D,E,H⟩:=EJ I;clear I
 go_wp2_with fail
 all_goals(refine(J a9 aa.out _ _ O1 (by split<;>first|rfl|omega)).mono ?_)
 all_goals(rintro al X⟨rfl,ba,ao,U⟩)
 all_goals(have K:=Ac ((AL.of_below (F:=G) aa.out).trans U))
 all_goals(have aq:=aR.moved K.out)
 all_goals(obtain⟨aE,aF,aJ,-⟩:=aq.reads)
 all_goals(have ar:=aW.moved K.out)
 all_goals(obtain⟨bb,bl,N,aL,be⟩:=Hu ar b T)
 all_goals(injection N with N;injection N with a2 a3;subst a2 a3)
 all_goals(have R:=λ(l:World)(e:η X l)=>Um (ao.below e) a f i k g m n (rest.getD b 0) aw am aZ a0 a1 (aE.below e).1 (aF.below e).1 (aJ.below e).1 (by show av.made.length<=1000;omega))
 all_goals(replace R:=Ac R)
 all_goals(have Y:=aX.touch U.touch (λa5=>Ω (a8 _ a5)))
 all_goals(generalize rest.getD b 0=bk at*)
 all_goals(clear ao U aq aE aF aJ ar J aL y z B C D E H)
 all_goals(obtain⟨y,z,B,C,D,E,H⟩:=EJ Y)
 all_goals(clear Y)
 all_goals(have bj:(b:Int)<(rest.length:Int):=O1)
 all_goals(go_wp2_with fail)
 all_goals(go_region_with(go_at_call 189;go_loud(refine(R.out _ ((Dr.drew X).below _)).mono ?_;rintro al bm⟨rfl,aM,az,aD⟩)))
 all_goals(have ac:=Ac (And.intro az (K.out.trans ((AL.of_below ((Dr.drew X).below _)).trans aD))))
 all_goals(clear az aD)
 all_goals(go_wp2_with fail)
 all_goals(go_ret2)
 all_goals(rw[aV.out])
 all_goals(exact⟨rfl,aM,ac.out.1,ac.out.2⟩)
end
