import Derived.Test.YtekhjimghoibfaaGreatDoorI12
import Derived.Test.YtekhjimghoibfaaGreatDoorI13
set_option linter.defProp false
set_option maxHeartbeats 32000000
set_option maxRecDepth 100000
open Go.Value renaming ownBlock->Ba
open Go.Lib renaming hid->Aa
open Nat renaming le_refl->Ad
open List renaming getElem?_eq_getElem->Ae,map_drop->Xl,length_drop->AU
namespace Go.Proofs.YtekhjimghoibfaaGreatDoor
open Go.RowKit
open Go.Proofs.Tryz
def gY(x:Nd)(b:UInt8)(a:UInt64):Jy x b a=WI x b a:=rfl
def Ac7{w a:World}{base g:Nat}{e:TypeId}{k l m n:Value}(h:CQ a g e [k,l,m,n])(o:Below base w a)(j:base<=g)(b c d f:Value):
 ∃i,i=(((a.setCell (Φ g) b).setCell (Δ g 1) c).setCell (Δ g 2) d).setCell (Δ g 3) f/\CQ i g e [b,c,d,f]/\Below base w i/\Kept a i (some g):=
 ⟨_,rfl,(((h.AZ 0 b).AZ 1 c).AZ 2 d).AZ 3 f,
   (((o.setCell (p:=Φ g) j b).setCell (p:=Δ g 1) j c).setCell (p:=Δ g 2) j d).setCell (p:=Δ g 3) j f,
   (((Kept.AZ a g 0 b).trans' (Kept.AZ _ g 1 c)).trans' (Kept.AZ _ g 2 d)).trans' (Kept.AZ _ g 3 f)⟩
def KX{w w':World}{B g k n:Nat}{e:TypeId}{v:Value}{xs:List Value}(h:w.ownsRow B e k v n xs)(b:Kept w w' (some g))(j:g<B):w'.ownsRow B e k v n xs:=by
 refine Fg h b (.inl ?_);rcases h.2 with⟨a,_⟩|⟨f,c,d,a,i,_⟩
 ·subst a;simp[Ba]
 ·subst a;simp[Ba];omega
section
variable{w w':World}{base jb x d p L:Nat}{j:Jm}{G:Nat->Prop}
def IA.of_below{r:Jm×UInt64×Int}{a:World}(i:η w a){e:Ending}(h:IA r base jb x d p L G a e w'):IA r base jb x d p L G w e w':=by
 obtain⟨c,b,f,g⟩:=h;exact⟨c,b,f,(AP.of_below i).trans g⟩
def Td(h:FZ w base jb x d p L j G)(a:Nd)(m n o:Option Addr)(v y z:Nat)(c:UInt8)(b:UInt64)(e:Int)(aB:a.pre.length<=100)(aD:a.labels.length<=100)(aE:a.kids.length<=100)
 (h1:Bs w m a.pre.length a.pre)(h2:Bs w n a.labels.length a.labels)(h3:Ws w o a.kids.length a.kids)(av:j.made.length<=1000):
 Calls prog 147 #[Az jb,.agg #[.slice m a.pre.length v,.int .u64 (a.val.toNat:Int),.slice n a.labels.length y,.slice o a.kids.length z],.int .u8 (c.toNat:Int),.int .u64 (b.toNat:Int),.int .i64 e] w (IA (Gj j a c b e) base jb x d p L G w):=by
 obtain⟨P,I,aa,ab,ac,ad,s,aG⟩:=Afp w 195 (.slice m a.pre.length v) (.int .u64 (a.val.toNat:Int)) (.slice n a.labels.length y) (.slice o a.kids.length z);have A:CQ P w.heap.size 195 [.slice m a.pre.length v,.int .u64 (a.val.toNat:Int),.slice n a.labels.length y,.slice o a.kids.length z]:=I▸heap_alloc_new _ _;have t:=Aa I;have M:=Aa h;have B:=Aa s;by_cases J:e=0
 ·subst J;have E:=h1.below s;have F:=h2.below s;have H:=h3.below s;clear h1 h2 h3 h I s;cases l:WI a c b with
  |false=>
   have g:Hid (Gj j a c b 0=(j,0,5)):=Aa (by unfold Gj;rw[if_neg Θ,gY,l];rfl);have q:=Aa (Aas m n o a.pre.length v a.labels.length y a.kids.length z a c b P O O O E F H l);unfold Pn at q;clear l E F H;go_enter func147,ntmps147
   go_wp2_with fail
   rw[<-t.out];clear t;refine q.out.mono ?_;rintro e aw⟨rfl,k⟩;have f:=A.ξ k;have C:=Aa (τ B.out k);clear aa ab ac ad A k q;obtain⟨am,an,ao,ap,f0,f1,f2,f3⟩:=CO f;have D:=Aa f;clear f
   go_wp2_with fail
   go_ret2;refine⟨by rw[g.out];rfl,G,?_,?_⟩
   ·rw[g.out];obtain⟨W,r,-,i,-⟩:=Ac7 D.out C.out (Ad _) (.slice none 0 0) (.int .u64 0) (.slice none 0 0) (.slice none 0 0);rw[<-r];exact M.out.below i
   ·obtain⟨W,r,-,i,-⟩:=Ac7 D.out C.out (Ad _) (.slice none 0 0) (.int .u64 0) (.slice none 0 0) (.slice none 0 0);rw[<-r];exact AP.of_below i
  |true=>
   have aH:=l;have g:Hid (Gj j a c b 0=DD j (Nh a c b)):=Aa (by unfold Gj;rw[if_neg Θ,gY,l];rfl);have q:=Aa (qI m n o a.pre.length v a.labels.length y a.kids.length z a c b P O O O E F H l);have Q:(Nh a c b).pre.length<=1000/\(Nh a c b).labels.length<=1000/\(Nh a c b).kids.length<=1000:=by
    unfold Nh ins;simp;omega
   generalize Nh a c b=u at*;clear l E F H;go_enter func147,ntmps147
   go_wp2_with fail
   rw[<-t.out];clear t;refine q.out.mono ?_;rintro e aw⟨⟨R,X,S,Y,T,Z,rfl,af,ah,al⟩,k⟩;have f:=A.ξ k;have C:=Aa (τ B.out k);have N:=Aa (And.intro af (And.intro ah al));clear aa ab ac ad A k q af ah al;obtain⟨am,an,ao,ap,f0,f1,f2,f3⟩:=CO f;have D:=Aa f;clear f
   go_wp2_with fail
   obtain⟨W,r,V,i,K⟩:=Ac7 D.out C.out (Ad _) (.slice R u.pre.length X) (.int .u64 (u.val.toNat:Int)) (.slice S u.labels.length Y) (.slice T u.kids.length Z);rw[<-r];have ar:=Aa (Md (M.out.below i) u R S T X Y Z Q.1 Q.2.1 Q.2.2 (CV (KX N.out.1 K O)).2 (CV (KX N.out.2.1 K O)).2 (CV (KX N.out.2.2 K O)).2 av);have az:=Aa i;obtain⟨am,an,ao,ap,f0,f1,f2,f3⟩:=CO V;clear i K V r
   first
    |go_wp2_with fail
    |skip
   refine ar.out.mono ?_;rintro e aL⟨rfl,U⟩;have aq:=Aa U;clear U
   go_wp2_with fail
   go_ret2;rw[g.out];exact(IA.of_below az.out ⟨rfl,aq.out⟩)
 ·have g:Hid (Gj j a c b e=(j,0,e)):=Aa (by unfold Gj;rw[if_pos J]);have t1:(e !=0)=true:=by rw[bne_iff_ne];exact J
  clear h1 h2 h3 h I s J;go_enter func147,ntmps147
  go_wp2_with fail
  rw[<-t.out];go_ret2;refine⟨by rw[g.out];rfl,G,?_,AP.of_below B.out⟩;rw[g.out];exact M.out.below B.out
end
section
variable{base jb x d p L:Nat}
def Hm{w:World}{G:Nat->Prop}{A:Option Addr}{l:List UInt8}(h:Jo w G A l.length (l.map bv))(k:Nat)(c:k<l.length):∃a b,A=some (Δ a b)/\a<w.heap.size/\w.cell? (Δ a (b+k))=some (.int .u8 ((l.getD k 0).toNat:Int)):=by
 obtain⟨a,b,d,e,f⟩:=h.1.2 O;refine⟨a,b,d,e,?_⟩;rw[f k c,List.getElem?_map,Ae c,List.getD_eq_getElem?_getD,Ae c];rfl
def Vx:∀(f:Nat)(w:World)(j:Jm)(G:Nat->Prop)(l:List UInt8)(a:UInt64)(A:Option Addr)(c:Nat),FZ w base jb x d p L j G->Jo w G A l.length (l.map bv)->l.length<=c->l.length<f->l.length<=100->j.made.length+f<=1000->
 Calls prog 101 #[Az jb,.slice A l.length c,.int .u64 (a.toNat:Int)] w (IA (JA f j l a) base jb x d p L G w)
 |0,w,j,G,l,a,A,c,h,e,K,M,ab,ac=>absurd M O
 |f+1,w,j,G,l,a,A,c,h,e,K,M,ab,ac=>by
  by_cases I:l.length<=15
  ·have o:Hid (JA (f+1) j l a=DD j ⟨l,a,[],[]⟩):=Aa (by rw[JA,if_pos I]);have W:=Aa (Md h ⟨l,a,[],[]⟩ A none none c 0 0 (by simp only;omega) Θ Θ e.1 Rd.nil Rd.nil O);have t1:decide ((l.length:Int)<=15)=true:=decide_eq_true O;clear h e;go_enter func101,ntmps101
   go_wp2_with fail
   refine W.out.mono ?_;rintro H g⟨rfl,N⟩;have X:=Aa N;clear N
   go_wp2_with fail
   go_ret2;rw[o.out];exact⟨rfl,X.out⟩
  ·have t1:decide ((l.length:Int)<=15)=false:=decide_eq_false O;obtain⟨i,m,rfl,am,-⟩:=Hm e 15 O;have hcut:=e.cut 16 O K;rw[<-Xl,show l.length-16=(l.drop 16).length by simp]at hcut;have b:=Vx f w j G (l.drop 16) a _ (c-16) h hcut (by simp;omega) (by simp;omega) (by simp;omega) O;rw[show(l.drop 16).length=l.length-16 by simp]at b;obtain⟨⟨C,D,u⟩,B⟩:∃af,JA f j (l.drop 16) a=af:=⟨_,rfl⟩;have Q:=LZ f j (l.drop 16) a;have o:Hid (JA (f+1) j l a=Gj C ⟨l.take 15,0,[],[]⟩ (l.getD 15 0) D u):=Aa (by rw[JA,if_neg I,B]);rw[B]at b Q;simp only at Q;have b:Hid (∀q n,n=c-16->q=(if c=16 then some ((Δ i m):Addr)else some (Δ i (m+16)))->Calls prog 101 #[Az jb,.slice q (l.length-16) n,.int .u64 (a.toNat:Int)] w (IA (C,D,u) base jb x d p L G w)):=Aa (λq n s t=>by subst s t;exact b);have Z:=Aa e;clear h e hcut B;go_enter func101,ntmps101
   go_wp2_with fail
   all_goals(refine(b.out _ _ O (by split<;>first|rfl|omega)).mono ?_)
   all_goals(rintro H g⟨rfl,U,P,z⟩)
   all_goals(clear b)
   all_goals(have v:=Z.out.moved z)
   all_goals(obtain⟨al,aw,r,ah,an⟩:=Hm v 15 O)
   all_goals(injection r with r;injection r with s t;subst s t)
   all_goals(have y:(l.take 15).length=15:=by simp;omega)
   all_goals(have R:Jo g U (some (Δ i m)) 15 ((l.take 15).map bv):=by have:=v.take 15 O;rwa [<-List.map_take]at this)
   all_goals(have k:=λ(F:World)(J:η g F)=>Td (P.below J) ⟨l.take 15,0,[],[]⟩ (some (Δ i m)) none none 15 0 0 (l.getD 15 0) D u (by show(l.take 15).length<=100;omega) Θ Θ (by show Rd F _ (l.take 15).length _;rw[y];exact(R.below J).1) Rd.nil Rd.nil (by show C.made.length<=1000;omega))
   all_goals(replace k:=Aa k)
   all_goals(rw[y]at k)
   all_goals(have Y:=Aa z)
   all_goals(generalize l.getD 15 0=av at*)
   all_goals(generalize l.take 15=ar at*)
   all_goals(clear P z v b y R)
   all_goals(have ad:(15:Int)<(l.length:Int):=O)
   all_goals(have ao:decide ((15:Int)<(l.length:Int))=true:=decide_eq_true ad)
   all_goals(have ap:15<l.length:=O)
   all_goals(have aq:15<=c:=O)
   all_goals(go_wp2_with fail)
   all_goals(go_region_with(go_at_call 147;go_loud(refine(k.out _ ((Dr.drew g).below _)).mono ?_;rintro H az⟨rfl,aa⟩)))
   all_goals(obtain⟨V,S,T⟩:=aa)
   all_goals(have E:=Aa (And.intro S (Y.out.trans ((AP.of_below ((Dr.drew g).below _)).trans T))))
   all_goals(clear S T)
   all_goals(go_wp2_with fail)
   all_goals(go_ret2)
   all_goals(rw[o.out])
   all_goals(exact⟨rfl,V,E.out.1,E.out.2⟩)
end
section
variable{base jb x d p L:Nat}
def ZK.reads{w:World}{G:Nat->Prop}{b c d:Option Addr}{p e q j r k:Nat}{v:Value}{a:Nd}(h:ZK w G (.slice b p e) v (.slice c q j) (.slice d r k) a):
 Jo w G b a.pre.length (a.pre.map bv)/\Jo w G c a.labels.length (a.labels.map bv)/\Jo w G d a.kids.length (a.kids.map wv)/\a.pre.length<=e:=by
 obtain⟨_,_,_,_,_,_,l,_,m,n,o,s,t,u⟩:=h;injection l with f x g
 injection m with i y z
 injection n with d1 d2 d3
 subst f g i d1;exact⟨s,t,u,o⟩
def Jo.rest{w:World}{G:Nat->Prop}{b off c k n:Nat}{l:List UInt8}(h:Jo w G (some (Δ b off)) n (l.map bv))(e:n=l.length)(f:k<=l.length)(d:l.length<=c){P:Option Addr}(a:P=(if c=k then some (Δ b off)else some (Δ b (off+k)))):
 Jo w G P (l.drop k).length ((l.drop k).map bv):=by
 subst e a;have:=h.cut k O d;rw[Xl,AU];exact this
def Ac8{w:World}{j:Jm}{G:Nat->Prop}(h:FZ w base jb x d p L j G)(a:Nd)(f i k:Option Addr)(g m n:Nat)(off r:Int)(lb:UInt8)(rest:List UInt8)(A:Option Addr)(c:Nat)(o:UInt64)
 (Q:ZK w G (.slice f a.pre.length g) (.int .u64 (a.val.toNat:Int)) (.slice i a.labels.length m) (.slice k a.kids.length n) a)(a2:a.pre.length<=100)(a3:a.labels.length<=100)(a4:a.kids.length<=100)
 (q:Jo w G A rest.length (rest.map bv))(a9:rest.length<=c)(bm:rest.length<=100)(bl:j.made.length<=500)(y:common a.pre rest=a.pre.length)(U:common a.pre rest<rest.length):
 Calls prog 103 #[Az jb,.agg #[.slice f a.pre.length g,.int .u64 (a.val.toNat:Int),.slice i a.labels.length m,.slice k a.kids.length n,.int .i64 off,.int .u8 (lb.toNat:Int),.int .i64 r],.slice A rest.length c,.int .u64 (o.toNat:Int)] w (IA (Jd j a rest o) base jb x d p L G w):=by
 have t:η w (w.alloc (.cells #[.slice f a.pre.length g,.int .u64 (a.val.toNat:Int),.slice i a.labels.length m,.slice k a.kids.length n,.int .i64 off,.int .u8 (lb.toNat:Int),.int .i64 r] 197)):=(Below.refl _ _).alloc (Ad _) _;have s:CQ (w.alloc (.cells #[.slice f a.pre.length g,.int .u64 (a.val.toNat:Int),.slice i a.labels.length m,.slice k a.kids.length n,.int .i64 off,.int .u8 (lb.toNat:Int),.int .i64 r] 197)) w.heap.size 197 [.slice f a.pre.length g,.int .u64 (a.val.toNat:Int),.slice i a.labels.length m,.slice k a.kids.length n,.int .i64 off,.int .u8 (lb.toNat:Int),.int .i64 r]:=heap_alloc_new _ _;obtain⟨ah,R⟩:=ε (w.alloc (.cells #[.slice f a.pre.length g,.int .u64 (a.val.toNat:Int),.slice i a.labels.length m,.slice k a.kids.length n,.int .i64 off,.int .u8 (lb.toNat:Int),.int .i64 r] 197));rw[<-R]at t s;have ad:=Aa R;obtain⟨N,W,rfl,bj,-⟩:=Hm q _ U;obtain⟨b,u⟩:=ε (common a.pre rest);rw[<-u]at y U;obtain⟨⟨av,aw,am⟩,v⟩:∃bc,JA (rest.length+1) j (rest.drop (b+1)) o=bc:=⟨_,rfl⟩;have ap:=LZ (rest.length+1) j (rest.drop (b+1)) o;rw[v]at ap;simp only at ap;have aR:Hid (Jd j a rest o=Gj av a (rest.getD b 0) aw am):=Aa (by rw[Jd,<-u,if_pos y,v]);have K:=Aa (λ(l:World)(e:η w l)(af:Option Addr)(Z:Nat)(bi:Z=c-(b+1))(a7:af=(if c=b+1 then some ((Δ N W):Addr)else some (Δ N (W+(b+1)))))=>Vx (rest.length+1) l j G (rest.drop (b+1)) o af Z (h.below e) ((q.below e).rest rfl O a9 a7) (by rw[AU];omega) (by rw[AU];omega) (by rw[AU];omega) O);rw[v,AU]at K;have ab:=Aa (λ(l:World)(e:η w l)=>LK f (some (Δ N W)) a.pre.length rest.length g c a.pre rest l O O (Q.reads.1.below e).1 (q.below e).1);rw[<-u]at ab;have aM:=Aa Q;have a0:=Aa q;have bb:=Aa h.lt;clear h Q q v R;have t1:((b:Int)==(a.pre.length:Int))=true:=by rw[beq_iff_eq];omega
 have bo:IntKind.i64.wrap ((b:Int)+1)=(b:Int)+1:=wrap64 _ O O;obtain⟨z,B,C,D,E,H,I⟩:=EN s;have bg:=Aa y;clear u y;go_enter func103,ntmps103
 go_wp2_with fail
 rw[<-ad.out];clear ad;refine(ab.out ah t).mono ?_;rintro al bd⟨rfl,T⟩;have an:=τ t (T.below ah.heap.size);have J:=s.ξ (T.below _);have aa:=Aa an;have a1:=Aa J;clear s t T z B C D E H I an;obtain⟨z,B,C,D,E,H,I⟩:=EN J;clear J
 go_wp2_with fail
 all_goals(refine(K.out bd aa.out _ _ O (by split<;>first|rfl|omega)).mono ?_)
 all_goals(rintro al X⟨rfl,be,ao,V⟩)
 all_goals(have M:=Aa ((AP.of_below (F:=G) aa.out).trans V))
 all_goals(have aq:=aM.out.moved M.out)
 all_goals(obtain⟨aD,aE,aG,-⟩:=aq.reads)
 all_goals(have ar:=a0.out.moved M.out)
 all_goals(obtain⟨bh,br,P,aH,bk⟩:=Hm ar b U)
 all_goals(injection P with P;injection P with a5 a6;subst a5 a6)
 all_goals(have S:=λ(l:World)(e:η X l)=>Td (ao.below e) a f i k g m n (rest.getD b 0) aw am a2 a3 a4 (aD.below e).1 (aE.below e).1 (aG.below e).1 (by show av.made.length<=1000;omega))
 all_goals(replace S:=Aa S)
 all_goals(have Y:=a1.out.touch V.touch (λa8=>Ω (bb.out _ a8)))
 all_goals(generalize rest.getD b 0=bq at*)
 all_goals(clear ao V aq aD aE aG ar K aH z B C D E H I)
 all_goals(obtain⟨z,B,C,D,E,H,I⟩:=EN Y)
 all_goals(clear Y)
 all_goals(have ba:(b:Int)<(rest.length:Int):=O)
 all_goals(have bp:decide ((b:Int)<(rest.length:Int))=true:=decide_eq_true ba)
 all_goals(go_wp2_with fail)
 all_goals(go_region_with(go_at_call 147;go_loud(refine(S.out _ ((Dr.drew X).below _)).mono ?_;rintro al bs⟨rfl,aL,az,aB⟩)))
 all_goals(have ac:=Aa (And.intro az (M.out.trans ((AP.of_below ((Dr.drew X).below _)).trans aB))))
 all_goals(clear az aB)
 all_goals(go_wp2_with fail)
 all_goals(go_ret2)
 all_goals(rw[aR.out])
 all_goals(exact⟨rfl,aL,ac.out.1,ac.out.2⟩)
end
