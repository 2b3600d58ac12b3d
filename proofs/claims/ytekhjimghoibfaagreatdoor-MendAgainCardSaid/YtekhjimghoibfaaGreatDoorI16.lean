import Derived.Test.YtekhjimghoibfaaGreatDoorI14
set_option linter.defProp false
set_option maxHeartbeats 32000000
set_option maxRecDepth 100000
open Nat renaming le_refl->Ad,zero_le->BB
open Go.Lib renaming hid->Aa
open List renaming length_drop->AU,map_take->VL,getElem?_cons_zero->Ag,getElem?_cons_succ->AB,getElem?_map->CB,getElem?_eq_getElem->Ae,getElem_mem->BH,drop_length->Afc
namespace Go.Proofs.YtekhjimghoibfaaGreatDoor
open Go.RowKit
open Go.Proofs.Tryz
section
variable{base jb x d p L:Nat}
def grow_end{w:World}{j:Jm}{G:Nat->Prop}(h:FZ w base jb x d p L j G)(a:Nd)(t l m:Option Addr)(k n o:Nat)(off D:Int)(lb:UInt8)(rest:List UInt8)(A:Option Addr)(c:Nat)(s:UInt64)
 (a5:ZK w G (.slice t a.pre.length k) (.int .u64 (a.val.toNat:Int)) (.slice l a.labels.length n) (.slice m a.kids.length o) a)(cd:a.pre.length<=100)(ce:a.labels.length<=100)(cf:a.kids.length<=100)
 (am:Jo w G A rest.length (rest.map bv))(_:rest.length<=c)(cj:rest.length<=100)(ch:j.made.length<=500)(az:common a.pre rest<a.pre.length)(Z:common a.pre rest=rest.length):
 Calls prog 103 #[Az jb,.agg #[.slice t a.pre.length k,.int .u64 (a.val.toNat:Int),.slice l a.labels.length n,.slice m a.kids.length o,.int .i64 off,.int .u8 (lb.toNat:Int),.int .i64 D],.slice A rest.length c,.int .u64 (s.toNat:Int)] w (IA (Jd j a rest s) base jb x d p L G w):=by
 have X:η w (w.alloc (.cells #[.slice t a.pre.length k,.int .u64 (a.val.toNat:Int),.slice l a.labels.length n,.slice m a.kids.length o,.int .i64 off,.int .u8 (lb.toNat:Int),.int .i64 D] 197)):=(Below.refl _ _).alloc (Ad _) _;have P:CQ (w.alloc (.cells #[.slice t a.pre.length k,.int .u64 (a.val.toNat:Int),.slice l a.labels.length n,.slice m a.kids.length o,.int .i64 off,.int .u8 (lb.toNat:Int),.int .i64 D] 197)) w.heap.size 197 [.slice t a.pre.length k,.int .u64 (a.val.toNat:Int),.slice l a.labels.length n,.slice m a.kids.length o,.int .i64 off,.int .u8 (lb.toNat:Int),.int .i64 D]:=heap_alloc_new _ _;obtain⟨a1,an⟩:=ε (w.alloc (.cells #[.slice t a.pre.length k,.int .u64 (a.val.toNat:Int),.slice l a.labels.length n,.slice m a.kids.length o,.int .i64 off,.int .u8 (lb.toNat:Int),.int .i64 D] 197));rw[<-an]at X P;have aR:=Aa an;obtain⟨q,C,bj,bd⟩:=a5.reads;obtain⟨e,f,rfl,ci,-⟩:=Hm q _ az;obtain⟨b,u⟩:=ε (common a.pre rest);have cg:b<=rest.length:=by rw[u];exact FM _ _
 have aL:=Aa (λ(r:World)(i:η w r)=>LK (some (Δ e f)) A a.pre.length rest.length k c a.pre rest r O O (q.below i).1 (am.below i).1);rw[<-u]at az aL;have b7:Hid (b=common a.pre rest):=Aa u;obtain⟨⟨bh,bi,a4⟩,z⟩:∃bX,DD j {a with pre:=a.pre.drop (b+1)}=bX:=⟨_,rfl⟩;have a9:=Iu j {a with pre:=a.pre.drop (b+1)};rw[z]at a9;simp only at a9;have cb:=Aa z;have T:=Aa (λ(r:World)(i:η w r)(a0:Option Addr)(bw:Nat)(bR:a0=(if k=b+1 then some ((Δ e f):Addr)else some (Δ e (f+(b+1)))))=>Md (h.below i) {a with pre:=a.pre.drop (b+1)} a0 l m bw n o (by simp;omega) (by simp only;omega) (by simp only;omega)
  (((q.below i).rest rfl O bd bR).1) (C.below i).1 (bj.below i).1 O)
 rw[z]at T;simp only[AU]at T;have bB:=Aa q;have b8:=Aa am;have bW:=Aa h.lt;have ca:=Aa bd;rw[<-u]at Z;have bE:Hid (Jd j a rest s=Gj bh ⟨a.pre.take b,s,[],[]⟩ (a.pre.getD b 0) bi a4):=Aa (by rw[Jd,<-u,if_neg O,z];simp only[if_pos Z]);have b9:=Aa Z;clear h a5 am z an q C bj;have t1:((b:Int)==(a.pre.length:Int))=false:=ζ O;have cm:IntKind.i64.wrap ((b:Int)+1)=(b:Int)+1:=wrap64 _ O O;have t2:((b:Int)==(rest.length:Int))=true:=by rw[beq_iff_eq];omega
 obtain⟨E,H,I,J,K,M,N⟩:=EN P;clear u Z;go_enter func103,ntmps103
 go_wp2_with fail
 rw[<-aR.out];clear aR;refine(aL.out a1 X).mono ?_;rintro a3 ab⟨rfl,aq⟩;have a6:=τ X (aq.below a1.heap.size);have v:=P.ξ (aq.below _);have ck:w.heap.size<ab.heap.size:=v.lt;obtain⟨cs,bg,a7,aD⟩:=Fz ab 195 [.slice (some (Δ e f)) a.pre.length k,.int .u64 (a.val.toNat:Int),.slice l a.labels.length n,.slice m a.kids.length o];have Q:=Aa a6;have bL:=Aa v;obtain⟨E,H,I,J,K,M,N⟩:=EN (v.ξ a7);obtain⟨ac,ad,af,ah,R,S,U,V⟩:=CO aD;obtain⟨bl,bm,bo,bp,bq,br,bs⟩:=EN v;rw[bg]at E H I J K M N ac ad af ah R S U V;have ba:w.heap.size≠ab.heap.size:=O;have bb:ab.heap.size≠w.heap.size:=O;clear P X aq a6 v aD a7 bg
 go_wp2_with fail
 all_goals(refine(T.out _ (Q.out.alloc Q.out.size _) _ _ (by split<;>first|rfl|omega)).mono ?_)
 all_goals(rintro a3 g⟨rfl,bx,a8,av⟩)
 all_goals(have a2:=Aa ((AP.of_below (F:=G) (Q.out.alloc Q.out.size _)).trans av))
 all_goals(have y:=(bL.out.ξ ((Below.refl _ _).alloc (Ad _) _)).touch av.touch (λbS=>Ω (bW.out _ bS)))
 all_goals(have aw:=bB.out.moved a2.out)
 all_goals(obtain⟨cc,cp,al,bc,ap⟩:=Hm aw b az)
 all_goals(injection al with al;injection al with bN bO;subst bN bO)
 all_goals(clear E H I J K M N ac ad af ah R S U V bl bm bo bp bq br bs T av ba bb)
 all_goals(have ar:(a.pre.take b).length=b:=by simp;omega)
 all_goals(have be:Jo g bx (some (Δ e f)) b ((a.pre.take b).map bv):=by have:=aw.take b O;rwa [<-VL]at this)
 all_goals(have cl:w.heap.size<g.heap.size:=y.lt)
 all_goals(have ba:w.heap.size≠g.heap.size:=O)
 all_goals(have bb:g.heap.size≠w.heap.size:=O)
 all_goals(obtain⟨bl,bm,bo,bp,bq,br,bs⟩:=EN y)
 all_goals(obtain⟨wt,aa⟩:=ε (g.alloc (.cells #[.slice (some (Δ e f)) b b,.int .u64 0,.slice none 0 0,.slice none 0 0] 195)))
 all_goals(have aE:CQ wt g.heap.size 195 [.slice (some (Δ e f)) b b,.int .u64 0,.slice none 0 0,.slice none 0 0]:=aa▸heap_alloc_new _ _)
 all_goals(have ao:η g wt:=aa▸(Below.refl _ _).alloc (Ad _) _)
 all_goals(have aB:=y.ξ ao)
 all_goals(obtain⟨E,H,I,J,K,M,N⟩:=EN aB)
 all_goals(obtain⟨ac,ad,af,ah,R,S,U,V⟩:=CO aE)
 all_goals(have bV:=(ao.cell (p:=Δ e (f+b)) bc).trans ap)
 all_goals(rw[aa]at E H I J K M N ac ad af ah R S U V bV)
 all_goals(obtain⟨bk,B⟩:=ε (g.alloc (.cells #[.slice (some (Δ e f)) b b,.int .u64 (s.toNat:Int),.slice none 0 0,.slice none 0 0] 195)))
 all_goals(have aG:CQ bk g.heap.size 195 [.slice (some (Δ e f)) b b,.int .u64 (s.toNat:Int),.slice none 0 0,.slice none 0 0]:=B▸heap_alloc_new _ _)
 all_goals(have Y:η g bk:=B▸(Below.refl _ _).alloc (Ad _) _)
 all_goals(obtain⟨b0,b1,b2,b3,b4,b5,b6⟩:=EN (y.ξ Y))
 all_goals(obtain⟨u0,u1,u2,u3,-⟩:=CO aG)
 all_goals(have bt:=(Y.cell (p:=Δ e (f+b)) bc).trans ap)
 all_goals(rw[B]at b0 b1 b2 b3 b4 b5 b6 u0 u1 u2 u3 bt)
 all_goals(have W:=λ(r:World)(i:η g r)=>Td (a8.below i) ⟨a.pre.take b,s,[],[]⟩ (some (Δ e f)) none none b 0 0 (a.pre.getD b 0) bi a4 (by show(a.pre.take b).length<=100;omega) Θ Θ (by show Rd r _ (a.pre.take b).length _;rw[ar];exact(be.below i).1) Rd.nil Rd.nil (by show bh.made.length<=1000;omega))
 all_goals(replace W:=Aa W)
 all_goals(rw[ar]at W)
 all_goals(have aH:=Aa (B▸Y))
 all_goals(generalize a.pre.getD b 0=co at*)
 all_goals(generalize a.pre.take b=cq at*)
 all_goals(clear a8 y aB aE aG ao Y aa B ar be aw ap)
 all_goals(have bT:(b:Int)<(a.pre.length:Int):=O)
 all_goals(have cn:decide ((b:Int)<(a.pre.length:Int))=true:=decide_eq_true bT)
 all_goals(go_wp2_with fail)
 all_goals(go_region_with(go_at_call 147;go_loud(refine(W.out _ (aH.out.trans ((Dr.drew _).below _))).mono ?_;rintro a3 cr⟨rfl,bA,q,C⟩)))
 all_goals(have aM:=Aa (And.intro q (a2.out.trans ((AP.of_below (aH.out.trans ((Dr.drew _).below _))).trans C))))
 all_goals(clear q C)
 all_goals(go_wp2_with fail)
 all_goals(go_ret2)
 all_goals(rw[bE.out])
 all_goals(exact⟨rfl,bA,aM.out.1,aM.out.2⟩)
def Ahd{w:World}{j:Jm}{G:Nat->Prop}(h:FZ w base jb x d p L j G)(a:Nd)(q f g:Option Addr)(e i k:Nat)(off z:Int)(lb:UInt8)(rest:List UInt8)(A:Option Addr)(c:Nat)(ao:UInt64)
 (aM:ZK w G (.slice q a.pre.length e) (.int .u64 (a.val.toNat:Int)) (.slice f a.labels.length i) (.slice g a.kids.length k) a)(bV:a.pre.length<=100)(bW:a.labels.length<=100)(bX:a.kids.length<=100)
 (ad:Jo w G A rest.length (rest.map bv))(_:rest.length<=c)(b3:rest.length<=100)(b1:j.made.length<=500)(an:common a.pre rest<a.pre.length)(bt:common a.pre rest<rest.length)(r:(DD j {a with pre:=a.pre.drop (common a.pre rest+1)}).2.2≠0):
 Calls prog 103 #[Az jb,.agg #[.slice q a.pre.length e,.int .u64 (a.val.toNat:Int),.slice f a.labels.length i,.slice g a.kids.length k,.int .i64 off,.int .u8 (lb.toNat:Int),.int .i64 z],.slice A rest.length c,.int .u64 (ao.toNat:Int)] w (IA (Jd j a rest ao) base jb x d p L G w):=by
 have V:η w (w.alloc (.cells #[.slice q a.pre.length e,.int .u64 (a.val.toNat:Int),.slice f a.labels.length i,.slice g a.kids.length k,.int .i64 off,.int .u8 (lb.toNat:Int),.int .i64 z] 197)):=(Below.refl _ _).alloc (Ad _) _;have K:CQ (w.alloc (.cells #[.slice q a.pre.length e,.int .u64 (a.val.toNat:Int),.slice f a.labels.length i,.slice g a.kids.length k,.int .i64 off,.int .u8 (lb.toNat:Int),.int .i64 z] 197)) w.heap.size 197 [.slice q a.pre.length e,.int .u64 (a.val.toNat:Int),.slice f a.labels.length i,.slice g a.kids.length k,.int .i64 off,.int .u8 (lb.toNat:Int),.int .i64 z]:=heap_alloc_new _ _;obtain⟨aG,af⟩:=ε (w.alloc (.cells #[.slice q a.pre.length e,.int .u64 (a.val.toNat:Int),.slice f a.labels.length i,.slice g a.kids.length k,.int .i64 off,.int .u8 (lb.toNat:Int),.int .i64 z] 197));rw[<-af]at V K;have aD:=Aa af;obtain⟨y,a8,a9,a6⟩:=aM.reads;obtain⟨l,m,rfl,b2,-⟩:=Hm y _ an;obtain⟨b,s⟩:=ε (common a.pre rest);have b0:b<=rest.length:=by rw[s];exact FM _ _
 have az:=Aa (λ(P:World)(n:η w P)=>LK (some (Δ l m)) A a.pre.length rest.length e c a.pre rest P O O (y.below n).1 (ad.below n).1);rw[<-s]at an az;have bN:Hid (b=common a.pre rest):=Aa s;obtain⟨⟨bA,b7,aL⟩,t⟩:∃bL,DD j {a with pre:=a.pre.drop (b+1)}=bL:=⟨_,rfl⟩;have a3:=Iu j {a with pre:=a.pre.drop (b+1)};rw[t]at a3;simp only at a3;have bS:=Aa t;have S:=Aa (λ(P:World)(n:η w P)(aE:Option Addr)(bi:Nat)(bq:aE=(if e=b+1 then some ((Δ l m):Addr)else some (Δ l (m+(b+1)))))=>Md (h.below n) {a with pre:=a.pre.drop (b+1)} aE f g bi i k (by simp;omega) (by simp only;omega) (by simp only;omega)
  (((y.below n).rest rfl O a6 bq).1) (a8.below n).1 (a9.below n).1 O)
 rw[t]at S;simp only[AU]at S;have bk:=Aa y;have bO:=Aa ad;have bE:=Aa h.lt;have bR:=Aa a6;rw[<-s]at bt r;rw[t]at r;simp only at r;have aB:Hid (Jd j a rest ao=(bA,0,aL)):=Aa (by rw[Jd,<-s,if_neg O,t];simp only;rw[if_neg O,if_pos r]);have b9:(aL !=0)=true:=by rw[bne_iff_ne];exact r
 clear r;clear h aM ad t af y a8 a9;have t1:((b:Int)==(a.pre.length:Int))=false:=ζ O;have b6:IntKind.i64.wrap ((b:Int)+1)=(b:Int)+1:=wrap64 _ O O;have t2:((b:Int)==(rest.length:Int))=false:=ζ O;obtain⟨B,C,D,E,H,I,J⟩:=EN K;clear s;go_enter func103,ntmps103
 go_wp2_with fail
 rw[<-aD.out];clear aD;refine(az.out aG V).mono ?_;rintro bm X⟨rfl,ah⟩;have aR:=τ V (ah.below aG.heap.size);have u:=K.ξ (ah.below _);have b4:w.heap.size<X.heap.size:=u.lt;obtain⟨ca,a7,a0,aq⟩:=Fz X 195 [.slice (some (Δ l m)) a.pre.length e,.int .u64 (a.val.toNat:Int),.slice f a.labels.length i,.slice g a.kids.length k];have N:=Aa aR;have bl:=Aa u;obtain⟨B,C,D,E,H,I,J⟩:=EN (u.ξ a0);obtain⟨Y,Z,aa,ab,Q,R,T,U⟩:=CO aq;obtain⟨ba,bb,bc,bd,be,bg,bh⟩:=EN u;rw[a7]at B C D E H I J Y Z aa ab Q R T U;have a4:w.heap.size≠X.heap.size:=O;have a5:X.heap.size≠w.heap.size:=O;clear K V ah aR u aq a0 a7
 go_wp2_with fail
 all_goals(refine(S.out _ (N.out.alloc N.out.size _) _ _ (by split<;>first|rfl|omega)).mono ?_)
 all_goals(rintro bm o⟨rfl,av,a2,al⟩)
 all_goals(have aH:=Aa ((AP.of_below (F:=G) (N.out.alloc N.out.size _)).trans al))
 all_goals(have M:=(bl.out.ξ ((Below.refl _ _).alloc (Ad _) _)).touch al.touch (λbr=>Ω (bE.out _ br)))
 all_goals(have am:=bk.out.moved aH.out)
 all_goals(obtain⟨bT,b8,ac,bw,a1⟩:=Hm am b an)
 all_goals(injection ac with ac;injection ac with bo bp;subst bo bp)
 all_goals(clear B C D E H I J Y Z aa ab Q R T U ba bb bc bd be bg bh S al a4 a5)
 all_goals(have bs:(a.pre.take b).length=b:=by simp;omega)
 all_goals(have bx:Jo o av (some (Δ l m)) b ((a.pre.take b).map bv):=by have:=am.take b O;rwa [<-VL]at this)
 all_goals(have b5:w.heap.size<o.heap.size:=M.lt)
 all_goals(have a4:w.heap.size≠o.heap.size:=O)
 all_goals(have a5:o.heap.size≠w.heap.size:=O)
 all_goals(obtain⟨ba,bb,bc,bd,be,bg,bh⟩:=EN M)
 all_goals(obtain⟨wt,v⟩:=ε (o.alloc (.cells #[.slice (some (Δ l m)) b b,.int .u64 0,.slice none 0 0,.slice none 0 0] 195)))
 all_goals(have ar:CQ wt o.heap.size 195 [.slice (some (Δ l m)) b b,.int .u64 0,.slice none 0 0,.slice none 0 0]:=v▸heap_alloc_new _ _)
 all_goals(have W:η o wt:=v▸(Below.refl _ _).alloc (Ad _) _)
 all_goals(have ap:=M.ξ W)
 all_goals(obtain⟨B,C,D,E,H,I,J⟩:=EN ap)
 all_goals(obtain⟨Y,Z,aa,ab,Q,R,T,U⟩:=CO ar)
 all_goals(have bB:=(W.cell (p:=Δ l (m+b)) bw).trans a1)
 all_goals(rw[v]at B C D E H I J Y Z aa ab Q R T U bB)
 all_goals(have aw:=Aa (v▸W))
 all_goals(have bj:=Aa a2)
 all_goals(clear a2 M ap ar W v bs bx am a1)
 all_goals(go_wp2_with fail)
 all_goals(go_ret2)
 all_goals(refine⟨by rw[aB.out];rfl,av,?_,aH.out.trans (AP.of_below aw.out)⟩)
 all_goals(rw[aB.out])
 all_goals(exact bj.out.below aw.out)
end
section
variable{base jb x d p L:Nat}
def Akq{w:World}{j:Jm}{G:Nat->Prop}(h:FZ w base jb x d p L j G)(a:Nd)(r m n:Option Addr)(g o q:Nat)(off B:Int)(lb:UInt8)(rest:List UInt8)(A:Option Addr)(c:Nat)(av:UInt64)
 (a3:ZK w G (.slice r a.pre.length g) (.int .u64 (a.val.toNat:Int)) (.slice m a.labels.length o) (.slice n a.kids.length q) a)(cb:a.pre.length<=100)(cc:a.labels.length<=100)(cd:a.kids.length<=100)
 (am:Jo w G A rest.length (rest.map bv))(_:rest.length<=c)(ci:rest.length<=100)(cg:j.made.length<=500)(ar:common a.pre rest<a.pre.length)(bV:common a.pre rest<rest.length)(Y:(DD j {a with pre:=a.pre.drop (common a.pre rest+1)}).2.2=0)(t:Jy ⟨a.pre.take (common a.pre rest),0,[],[]⟩ (a.pre.getD (common a.pre rest) 0) (DD j {a with pre:=a.pre.drop (common a.pre rest+1)}).2.1=false):
 Calls prog 103 #[Az jb,.agg #[.slice r a.pre.length g,.int .u64 (a.val.toNat:Int),.slice m a.labels.length o,.slice n a.kids.length q,.int .i64 off,.int .u8 (lb.toNat:Int),.int .i64 B],.slice A rest.length c,.int .u64 (av.toNat:Int)] w (IA (Jd j a rest av) base jb x d p L G w):=by
 have W:η w (w.alloc (.cells #[.slice r a.pre.length g,.int .u64 (a.val.toNat:Int),.slice m a.labels.length o,.slice n a.kids.length q,.int .i64 off,.int .u8 (lb.toNat:Int),.int .i64 B] 197)):=(Below.refl _ _).alloc (Ad _) _;have M:CQ (w.alloc (.cells #[.slice r a.pre.length g,.int .u64 (a.val.toNat:Int),.slice m a.labels.length o,.slice n a.kids.length q,.int .i64 off,.int .u8 (lb.toNat:Int),.int .i64 B] 197)) w.heap.size 197 [.slice r a.pre.length g,.int .u64 (a.val.toNat:Int),.slice m a.labels.length o,.slice n a.kids.length q,.int .i64 off,.int .u8 (lb.toNat:Int),.int .i64 B]:=heap_alloc_new _ _;obtain⟨a0,an⟩:=ε (w.alloc (.cells #[.slice r a.pre.length g,.int .u64 (a.val.toNat:Int),.slice m a.labels.length o,.slice n a.kids.length q,.int .i64 off,.int .u8 (lb.toNat:Int),.int .i64 B] 197));rw[<-an]at W M;have aH:=Aa an;obtain⟨z,bh,bi,bd⟩:=a3.reads;obtain⟨k,l,rfl,ch,-⟩:=Hm z _ ar;obtain⟨b,s⟩:=ε (common a.pre rest);have cf:b<=rest.length:=by rw[s];exact FM _ _
 have aE:=Aa (λ(f:World)(i:η w f)=>LK (some (Δ k l)) A a.pre.length rest.length g c a.pre rest f O O (z.below i).1 (am.below i).1);rw[<-s]at ar aE;have b6:Hid (b=common a.pre rest):=Aa s;obtain⟨⟨b0,b1,ce⟩,u⟩:∃b4,DD j {a with pre:=a.pre.drop (b+1)}=b4:=⟨_,rfl⟩;have ba:=Iu j {a with pre:=a.pre.drop (b+1)};rw[u]at ba;simp only at ba;have b9:=Aa u;have S:=Aa (λ(f:World)(i:η w f)(aM:Option Addr)(br:Nat)(bR:aM=(if g=b+1 then some ((Δ k l):Addr)else some (Δ k (l+(b+1)))))=>Md (h.below i) {a with pre:=a.pre.drop (b+1)} aM m n br o q (by simp;omega) (by simp only;omega) (by simp only;omega)
  (((z.below i).rest rfl O bd bR).1) (bh.below i).1 (bi.below i).1 O)
 rw[u]at S;simp only[AU]at S;have bA:=Aa z;have b7:=Aa am;have b3:=Aa h.lt;have b8:=Aa bd;rw[<-s]at bV Y t;rw[u]at Y t;simp only at Y t;subst Y;have aG:Hid (Jd j a rest av=(b0,0,5)):=Aa (by rw[Jd,<-s,if_neg O,u];simp only;rw[if_neg O,if_neg Θ,if_neg (by rw[t];exact Bool.false_ne_true)]);have bB:=Aa t;clear t;clear h a3 am u an z bh bi;have t1:((b:Int)==(a.pre.length:Int))=false:=ζ O;have cl:IntKind.i64.wrap ((b:Int)+1)=(b:Int)+1:=wrap64 _ O O;have t2:((b:Int)==(rest.length:Int))=false:=ζ O;obtain⟨C,D,E,H,I,J,K⟩:=EN M;clear s;go_enter func103,ntmps103
 go_wp2_with fail
 rw[<-aH.out];clear aH;refine(aE.out a0 W).mono ?_;rintro V Z⟨rfl,ao⟩;have a4:=τ W (ao.below a0.heap.size);have y:=M.ξ (ao.below _);have cj:w.heap.size<Z.heap.size:=y.lt;obtain⟨cz,bg,a6,aB⟩:=Fz Z 195 [.slice (some (Δ k l)) a.pre.length g,.int .u64 (a.val.toNat:Int),.slice m a.labels.length o,.slice n a.kids.length q];have P:=Aa a4;have bE:=Aa y;obtain⟨C,D,E,H,I,J,K⟩:=EN (y.ξ a6);obtain⟨aa,ab,ac,ad,Q,R,T,U⟩:=CO aB;obtain⟨bj,bk,bl,bm,bo,bp,bq⟩:=EN y;rw[bg]at C D E H I J K aa ab ac ad Q R T U;have bb:w.heap.size≠Z.heap.size:=O;have bc:Z.heap.size≠w.heap.size:=O;clear M W ao a4 y aB a6 bg
 go_wp2_with fail
 all_goals(refine(S.out _ (P.out.alloc P.out.size _) _ _ (by split<;>first|rfl|omega)).mono ?_)
 all_goals(rintro V e⟨rfl,aD,a9,ap⟩)
 all_goals(have a1:=Aa ((AP.of_below (F:=G) (P.out.alloc P.out.size _)).trans ap))
 all_goals(have N:=(bE.out.ξ ((Below.refl _ _).alloc (Ad _) _)).touch ap.touch (λbS=>Ω (b3.out _ bS)))
 all_goals(have aq:=bA.out.moved a1.out)
 all_goals(obtain⟨ca,co,al,bW,a7⟩:=Hm aq b ar)
 all_goals(injection al with al;injection al with bN bO;subst bN bO)
 all_goals(clear C D E H I J K aa ab ac ad Q R T U bj bk bl bm bo bp bq S ap bb bc)
 all_goals(have bT:(a.pre.take b).length=b:=by simp;omega)
 all_goals(have be:Jo e aD (some (Δ k l)) b ((a.pre.take b).map bv):=by have:=aq.take b O;rwa [<-VL]at this)
 all_goals(have ck:w.heap.size<e.heap.size:=N.lt)
 all_goals(have bb:w.heap.size≠e.heap.size:=O)
 all_goals(have bc:e.heap.size≠w.heap.size:=O)
 all_goals(obtain⟨bj,bk,bl,bm,bo,bp,bq⟩:=EN N)
 all_goals(obtain⟨wt,v⟩:=ε (e.alloc (.cells #[.slice (some (Δ k l)) b b,.int .u64 0,.slice none 0 0,.slice none 0 0] 195)))
 all_goals(have af:CQ wt e.heap.size 195 [.slice (some (Δ k l)) b b,.int .u64 0,.slice none 0 0,.slice none 0 0]:=v▸heap_alloc_new _ _)
 all_goals(have X:η e wt:=v▸(Below.refl _ _).alloc (Ad _) _)
 all_goals(have aw:=N.ξ X)
 all_goals(obtain⟨C,D,E,H,I,J,K⟩:=EN aw)
 all_goals(obtain⟨aa,ab,ac,ad,Q,R,T,U⟩:=CO af)
 all_goals(have b2:=(X.cell (p:=Δ k (l+b)) bW).trans a7)
 all_goals(rw[v]at C D E H I J K aa ab ac ad Q R T U b2)
 all_goals(have aL:=Aa (λ(f:World)(i:η e f)=>Aas (some (Δ k l)) none none b b 0 0 0 0 ⟨a.pre.take b,0,[],[]⟩ (a.pre.getD b 0) b1 f O O O (by show Rd f _ _ _;exact(be.below i).1) Rd.nil Rd.nil bB.out))
 all_goals(unfold Pn at aL)
 all_goals(have ah:=Aa (v▸X))
 all_goals(have bt:=Aa (v▸af))
 all_goals(have bx:=Aa a9)
 all_goals(generalize a.pre.getD b 0=cn at*)
 all_goals(generalize a.pre.take b=cp at*)
 all_goals(clear a9 N aw af X v bT be aq a7)
 all_goals(have bX:(b:Int)<(a.pre.length:Int):=O)
 all_goals(have cm:decide ((b:Int)<(a.pre.length:Int))=true:=decide_eq_true bX)
 all_goals(go_wp2_with fail)
 all_goals(go_region_with(go_at_call 148;go_loud(refine(aL.out _ (ah.out.trans ((Dr.drew _).below _))).mono ?_;rintro V b5⟨rfl,a5⟩;have bs:=(ah.out.trans ((Dr.drew _).below _)).trans (a5.mono (ah.out.trans ((Dr.drew _).below _)).size);have az:=bt.out.ξ (((Dr.drew _).below _).trans a5);obtain⟨cq,cr,cs,ct,cv,cw,cx,cy⟩:=CO az)))
 all_goals(obtain⟨bL,aR,-,a2,-⟩:=Ac7 az bs (Ad _) (.slice none 0 0) (.int .u64 0) (.slice none 0 0) (.slice none 0 0))
 all_goals(have bw:Hid (∀f,(f=(((b5.setCell (Φ e.heap.size) (.slice none 0 0)).setCell (Δ e.heap.size 1) (.int .u64 0)).setCell (Δ e.heap.size 2) (.slice none 0 0)).setCell (Δ e.heap.size 3) (.slice none 0 0))->η e f):=Aa (λf V=>by rw[V,<-aR];exact a2))
 all_goals(clear aR a2 bL)
 all_goals(go_wp2_with fail)
 all_goals(go_ret2)
 all_goals(have a8:=bw.out _ rfl)
 all_goals(refine⟨by rw[aG.out];rfl,aD,?_,a1.out.trans (AP.of_below a8)⟩)
 all_goals(rw[aG.out])
 all_goals(exact bx.out.below a8)
end
def Gof(F:Nat->Prop)(jb:Nat)(v:Value)(b:Nat):Prop:=F b\/b=jb\/v.ownBlock=some b
section
variable{w w':World}{base jb x d p L:Nat}{j:Jm}{F G:Nat->Prop}{v:Value}
def OC.move'(h:OC w base jb x d p L j F v){s':Ms}{a:Nat->Prop}(f:Ll w' d p L s' a)(m:AP F a w w'):OC w' base jb x d p L {j with s:=s'} a v/\AP (Gof F jb v) (Gof a jb v) w w':=by
 obtain⟨k,g,i,c⟩:=h.move (G:=Gof F jb v) (λ_=>Iff.rfl) f m;refine⟨g,c.touch,λb e=>c.own b ((i b).2 e)⟩
def qL{b:Type}(l:List b)(k:Nat)(a:k<l.length):l.drop k=l[k]::l.drop (k+1):=List.drop_eq_getElem_cons a
def QD(r:Ms×Int)(base jb x d p L:Nat)(j:Jm)(G:Nat->Prop)(w:World)(e:Ending)(w':World):Prop:=
 e=.returned (.int .i64 r.2)/\∃a,FZ w' base jb x d p L {j with s:=r.1} a/\AP G a w w'
def ae(h:FZ w base jb x d p L j G)(e:Int)(am:Int)(P:UInt64)(A:Option Addr)(c:Nat)(aL:List Int)(a2:j.made.length<=1000)(l:Ms)(f:Int)
 (aE:(e≠0/\l=j.s/\e=f)\/(e=0/\f≠0/\∃y:Nat,am=((8*y:Nat):Int)/\y<8*L/\Lj j.s 3 (D9 j.s.s.ws y P)=(l,f))):
 Calls prog 102 #[Az jb,.int .i64 e,.int .i64 am,.int .u64 (P.toNat:Int),.slice A aL.length c] w (QD (Kt l j.made,f) base jb x d p L j G w):=by
 obtain⟨F,v,i,S⟩:=h;have aB:G=Gof F jb v:=funext λav=>propext (S av)
 subst aB;obtain⟨m,u,rfl,a0,-⟩:=CS (Fe i.row (BB _));have B:=i.box.cell 0;have C:=i.box.cell 1;have u0:=i.ix.box.cell 0;simp only[Ag,AB]at B C u0;obtain⟨t,K⟩:∃t,Kt l j.made=t:=⟨_,rfl⟩;rw[K];have ar:=Aa K;have o:=Aa i;clear i S K;rcases aE with⟨E,ac,W⟩|⟨rfl,V,y,al,aw,ad⟩
 case' inl=>
  rw[W]at E⊢;have t1:(f==0)=false:=ζ E;have t2:(f !=0)=true:=by rw[bne_iff_ne];exact E
  have H:Hid (OC w base jb x d p L {j with s:=l} F (.slice m j.made.length u)):=Aa (by rw[ac];exact o.out);have I:=Aa (AP.refl (Gof F jb (.slice m j.made.length u)) w);clear E o ac W;go_enter func102,ntmps102
  go_wp2_with fail
 case' inr=>
  have r:=RG o.out.ix.sys y P aw;rw[<-al,ad]at r;have r:=Aa r;have t2:(f !=0)=true:=by rw[bne_iff_ne];exact V
  clear al ad V;go_enter func102,ntmps102
  go_wp2_with fail
  refine r.out.mono ?_;rintro e a8⟨rfl,aM,af,Z⟩;obtain⟨k,z⟩:=o.out.move' af Z;have H:=Aa k;have I:=Aa z;clear af Z r u0 o B C z;have C:=k.box.cell 1;simp only[Ag,AB]at C;clear k
  go_wp2_with fail
 all_goals
  clear C
  go_loopw [35](λN wr=>∃(a:Nat)(n:Nat->Prop)(g:Ms),a<=j.made.length/\N=.int .i64 (a:Nat)/\Kt g (j.made.drop a)=t/\OC wr base jb x d p L {j with s:=g} n (.slice m j.made.length u)/\AP (Gof F jb (.slice m j.made.length u)) (Gof n jb (.slice m j.made.length u)) w wr)(λN _=>j.made.length-(intOf N).toNat)
  case atStart=>exact⟨0,_,l,BB _,rfl,ar.out,H.out,I.out⟩
  case round=>
   obtain⟨a,n,g,a1,rfl,U,Y,ab⟩:=hrel;have J:=Aa ab;have R:=Aa U;have b:=Aa Y;clear ab U Y H I;by_cases M:a<j.made.length
   ·have B:=b.out.box.cell 0;have u1:=b.out.ix.box.cell 1;simp only[Ag,AB]at B u1;obtain⟨a6,a7,rfl,a3,T⟩:=(CV b.out.row).2.2 O;have D:=T a M;rw[CB,Ae M]at D;replace D:_=some (Value.int .i64 j.made[a]):=D;have X: -9223372036854775808<=j.made[a]/\j.made[a]<=9223372036854775807:=b.out.mb _ (BH _);have az:Hid (Kt (Eh g j.made[a]).1 (j.made.drop (a+1))=t):=Aa (by rw[<-R.out,qL _ _ M];rfl);have Q:=Aa (LV (q:=g) b.out.ix.sys j.made[a] X);generalize j.made[a]=aH at*;clear T X;have aG:(a:Int)<(j.made.length:Int):=O;have a5:decide ((a:Int)<(j.made.length:Int))=true:=decide_eq_true aG;have a4:IntKind.i64.wrap ((a:Int)+1)=(a:Int)+1:=wrap64 _ O O
    go_wp2_with fail
    refine Q.out.mono ?_;rintro aR a9⟨rfl,an,ah,aa⟩;obtain⟨k,z⟩:=b.out.move' ah aa;have ap:=Aa k;have ao:=Aa (J.out.trans z);clear k z ah aa Q B u1 D b J
    go_wp2_with fail
    go_roundw
    case rel=>exact⟨a+1,an,(Eh g aH).1,O,by go_num,az.out,ap.out,ao.out⟩
    case measure=>simp[intOf];omega
   ·have aD:a=j.made.length:=O;subst aD;have aq:Hid (g=t):=Aa (by have:=R.out;rw[Afc]at this;exact this)
    go_wp2_with fail
    go_ret;refine⟨rfl,Gof n jb _,?_,J.out⟩;rw[<-aq.out];exact⟨n,_,b.out,λ_=>Iff.rfl⟩
def qM(h:FZ w base jb x d p L j G)(B:Int)(i:Nat)(J:B=((8*i:Nat):Int))(W:i<8*L)(l:UInt64)(A:Option Addr)(c:Nat)(a:List Int)(Y:Jo w G A a.length (a.map zv))(an:∀m∈a,-9223372036854775808<=m/\m<=9223372036854775807)(a1:a.length<=1000)(af:j.made.length<=1000):
 Calls prog 102 #[Az jb,.int .i64 0,.int .i64 B,.int .u64 (l.toNat:Int),.slice A a.length c] w (QD (Ey j 0 B l a) base jb x d p L j G w):=by
 obtain⟨⟨k,e⟩,I⟩:∃az,Lj j.s 3 (D9 j.s.s.ws i l)=az:=⟨_,rfl⟩;have H:Ey j 0 B l a=if e=0 then J6 k a 0 else(Kt k j.made,e):=by unfold Ey;rw[if_neg Θ,J,show((8*i:Nat):Int).toNat/8=i by omega,I]
 by_cases g:e=0
 case neg=>
  rw[H,if_neg g];exact ae h 0 B l A c a af k e (.inr ⟨rfl,g,i,J,W,I⟩)
 subst g;rw[if_pos rfl]at H;rw[H];clear H af;obtain⟨F,v,u,X⟩:=h;have aG:G=Gof F jb v:=funext λaB=>propext (X aB)
 subst aG;have r:=RG u.ix.sys i l W;rw[<-J,I]at r;have r:=Aa r;have ar:=Aa u;have av:=Aa Y;have aw:=Aa an;have C:=u.box.cell 0;have u0:=u.ix.box.cell 0;simp only[Ag]at C u0;clear u X Y an J I;go_enter func102,ntmps102
 go_wp2_with fail
 refine r.out.mono ?_;rintro aM a7⟨rfl,aq,ao,ah⟩;obtain⟨y,z⟩:=ar.out.move' ao ah;have R:=Aa y;have S:=Aa z;clear y z ao ah r C u0
 go_wp2_with fail
 go_loopw [1,52](λaE N wr=>∃(b:Nat)(o:Nat->Prop)(f:Ms)(e:Int),b<=a.length/\aE=.int .i64 e/\N=.int .i64 (b:Nat)/\J6 f (a.drop b) e=J6 k a 0/\OC wr base jb x d p L {j with s:=f} o v/\AP (Gof F jb v) (Gof o jb v) w wr)(λ_ N _=>a.length-(intOf N).toNat)
 case atStart=>exact⟨0,aq,k,0,BB _,rfl,rfl,rfl,R.out,S.out⟩
 case round=>
  obtain⟨b,o,f,e,a0,rfl,rfl,ab,ad,am⟩:=hrel;have D:=Aa am;have Q:=Aa ab;have n:=Aa ad;clear am ab ad R S;by_cases M:b<a.length
  ·have C:=n.out.box.cell 0;have u1:=n.out.ix.box.cell 1;simp only[Ag,AB]at C u1;obtain⟨a5,a6,rfl,a2,Z⟩:=(av.out.moved D.out).1.2 O;have E:=Z b M;rw[CB,Ae M]at E;replace E:_=some (Value.int .i64 a[b]):=E;have ac: -9223372036854775808<=a[b]/\a[b]<=9223372036854775807:=aw.out _ (BH _);have t:Hid (J6 (Eh f a[b]).1 (a.drop (b+1)) (if e=0 then(Eh f a[b]).2 else e)=J6 k a 0):=Aa (by rw[<-Q.out,qL _ _ M];rfl);have K:=Aa (LV (q:=f) n.out.ix.sys a[b] ac);generalize a[b]=m at*;obtain⟨aD,aa⟩:=ε ((Eh f m).2);rw[<-aa]at t K;clear Z ac aa;have aL:(b:Int)<(a.length:Int):=O;have a4:decide ((b:Int)<(a.length:Int))=true:=decide_eq_true aL;have a3:IntKind.i64.wrap ((b:Int)+1)=(b:Int)+1:=wrap64 _ O O
   go_wp2_with fail
   refine K.out.mono ?_;rintro aR a8⟨rfl,P,ap,al⟩;obtain⟨y,z⟩:=n.out.move' ap al;have U:=Aa y;have T:=Aa (D.out.trans z);clear y z ap al K C u1 E n D;by_cases g:e=0
   ·subst g;rw[if_pos rfl]at t
    go_wp2_with fail
    go_roundw
    case rel=>exact⟨b+1,P,(Eh f m).1,aD,O,rfl,by go_num,t.out,U.out,T.out⟩
    case measure=>simp[intOf];omega
   ·rw[if_neg g]at t;have t5:(e==0)=false:=ζ g
    go_wp2_with fail
    go_roundw
    case rel=>exact⟨b+1,P,(Eh f m).1,e,O,rfl,by go_num,t.out,U.out,T.out⟩
    case measure=>simp[intOf];omega
  ·have aH:b=a.length:=O;subst aH;have V:Hid ((f,e)=J6 k a 0):=Aa (by have:=Q.out;rw[Afc]at this;exact this)
   go_wp2_with fail
   go_ret;refine⟨by rw[<-V.out];rfl,Gof o jb _,?_,D.out⟩;rw[<-V.out];exact⟨o,_,n.out,λ_=>Iff.rfl⟩
def QE(h:FZ w base jb x d p L j G)(e:Int)(b:Int)(i:Nat)(r:b=((8*i:Nat):Int))(m:i<8*L)(f:UInt64)(A:Option Addr)(c:Nat)(a:List Int)(n:Jo w G A a.length (a.map zv))(o:∀l∈a,-9223372036854775808<=l/\l<=9223372036854775807)(q:a.length<=1000)(k:j.made.length<=1000):
 Calls prog 102 #[Az jb,.int .i64 e,.int .i64 b,.int .u64 (f.toNat:Int),.slice A a.length c] w (QD (Ey j e b f a) base jb x d p L j G w):=by
 by_cases g:e=0
 ·subst g;exact qM h b i r m f A c a n o q k
 ·rw[show Ey j e b f a=(Kt j.s j.made,e)by unfold Ey;rw[if_pos g]];exact ae h e b f A c a k j.s e (.inl ⟨g,rfl,rfl⟩)
end
