import Derived.Test.YtfmkofmaabgbkaaGreatDoorJ17
set_option linter.defProp false
set_option maxHeartbeats 32000000
set_option maxRecDepth 100000
open Nat renaming le_refl->Ae,zero_le->BA
open Go.Lib renaming hid->Ac
open List renaming length_drop->AQ,map_take->qm,getElem?_cons_zero->Ag,getElem?_cons_succ->Am,getElem?_map->DJ,getElem?_eq_getElem->Ah,getElem_mem->Cm,drop_length->Ag2
open Go.Value renaming slice->fD,int->fP
open Go.IntKind renaming i64->gZ,u64->ig
open Go.Obj renaming cells->iy
open Option renaming some->iC,none->iD
open Go renaming World->jD
namespace Go.Proofs.YtfmkofmaabgbkaaGreatDoor
open Go.RowKit
open Go.Proofs.Tryz
section
variable{base jb x d p L:Nat}
def grow_end{w:jD}{j:Jm}{G:Nat->Prop}(h:FY w base jb x d p L j G)(a:Nd)(t k l:Option Addr)(i m n:Nat)(off y:Int)(lb:UInt8)(rest:List UInt8)(A:Option Addr)(c:Nat)(s:UInt64)
 (a0:bT w G (fD t a.pre.length i) (fP ig (a.val.toNat:Int)) (fD k a.labels.length m) (fD l a.kids.length n) a)(bX:a.pre.length<=100)(bY:a.labels.length<=100)(b0:a.kids.length<=100)
 (a1:KT w G A rest.length (rest.map bv))(_:rest.length<=c)(b3:rest.length<=100)(b1:j.made.length<=500)(av:common a.pre rest<a.pre.length)(ao:common a.pre rest=rest.length):
 Calls prog 159 #[ptr0 jb,.agg #[fD t a.pre.length i,fP ig (a.val.toNat:Int),fD k a.labels.length m,fD l a.kids.length n,fP gZ off,fP .u8 (lb.toNat:Int),fP gZ y],fD A rest.length c,fP ig (s.toNat:Int)] w (I7 (Jf j a rest s) base jb x d p L G w):=by
 have T:η w (w.alloc (iy #[fD t a.pre.length i,fP ig (a.val.toNat:Int),fD k a.labels.length m,fD l a.kids.length n,fP gZ off,fP .u8 (lb.toNat:Int),fP gZ y] 176)):=(Below.refl _ _).alloc (Ae _) _;have J:CB (w.alloc (iy #[fD t a.pre.length i,fP ig (a.val.toNat:Int),fD k a.labels.length m,fD l a.kids.length n,fP gZ off,fP .u8 (lb.toNat:Int),fP gZ y] 176)) w.heap.size 176 [fD t a.pre.length i,fP ig (a.val.toNat:Int),fD k a.labels.length m,fD l a.kids.length n,fP gZ off,fP .u8 (lb.toNat:Int),fP gZ y]:=heap_alloc_new _ _;obtain⟨aV,ah⟩:=ε (w.alloc (iy #[fD t a.pre.length i,fP ig (a.val.toNat:Int),fD k a.labels.length m,fD l a.kids.length n,fP gZ off,fP .u8 (lb.toNat:Int),fP gZ y] 176));rw[<-ah]at T J;have aM:=Ac ah;obtain⟨o,v,bb,bB⟩:=a0.reads;obtain⟨e,f,rfl,b2,-⟩:=Hu o _ av;obtain⟨b,V⟩:=ε (common a.pre rest);have aJ:=Ac (λ(r:jD)(g:η w r)=>MH (iC (Δ e f)) A a.pre.length rest.length i c a.pre rest r O1 O1 (o.below g).1 (a1.below g).1);rw[<-V]at av aJ;obtain⟨⟨a9,ba,aZ⟩,W⟩:∃bC,D8 j {a with pre:=a.pre.drop (b+1)}=bC:=⟨_,rfl⟩;have a5:=KU j {a with pre:=a.pre.drop (b+1)};rw[W]at a5;simp only at a5;have P:=Ac (λ(r:jD)(g:η w r)(aR:Option Addr)(bm:Nat)(bx:aR=(if i=b+1 then iC ((Δ e f):Addr)else iC (Δ e (f+(b+1)))))=>MW (h.below g) {a with pre:=a.pre.drop (b+1)} aR k l bm m n (by simp;omega) (by simp only;omega) (by simp only;omega)
  (((o.below g).rest rfl O1 bB bx).1) (v.below g).1 (bb.below g).1 O1)
 rw[W]at P;simp only[AQ]at P;have bq:=Ac o;have bD:=Ac h.lt;rw[<-V]at ao;have br:Hid (Jf j a rest s=Gn a9 ⟨a.pre.take b,s,[],[]⟩ (a.pre.getD b 0) ba aZ):=Ac (by rw[Jf,<-V,ku O1,W];simp only[jM ao]);clear h a0 a1 W ah o v bb;have t1:((b:Int)==(a.pre.length:Int))=false:=ζ O1;have b4:IntKind.i64.wrap ((b:Int)+1)=(b:Int)+1:=wrap64 _ O1 O1;have t2:((b:Int)==(rest.length:Int))=true:=by rw[beq_iff_eq];omega
 obtain⟨z,B,C,D,E,H,I⟩:=EJ J;clear V ao;go_enter func159,ntmps159
 go_wp2_with fail
 rw[<-aM.out];clear aM;refine(aJ aV T).mono ?_;rintro aX bS⟨rfl,an⟩;have a2:=τ T (an.below aV.heap.size);have K:=J.ξ (an.below _);obtain⟨ca,a8,a3,az⟩:=newB bS 174 [fD (iC (Δ e f)) a.pre.length i,fP ig (a.val.toNat:Int),fD k a.labels.length m,fD l a.kids.length n];have N:=Ac a2;have bs:=Ac K;obtain⟨z,B,C,D,E,H,I⟩:=EJ (K.ξ a3);obtain⟨aa,ab,ac,ad,Q,R,Z,Y⟩:=CS az;obtain⟨bd,be,bg,bh,bi,bj,bk⟩:=EJ K;rw[a8]at z B C D E H I aa ab ac ad Q R Z Y;clear J T an a2 K az a3 a8
 go_wp2_with fail
 all_goals(refine(P _ (N.alloc N.size _) _ _ (by split<;>first|rfl|omega)).mono ?_)
 all_goals(rintro aX q⟨rfl,bo,a4,aq⟩)
 all_goals(have aW:=Ac ((AL.of_below (F:=G) (N.alloc N.size _)).trans aq))
 all_goals(have M:=(bs.out.ξ ((Below.refl _ _).alloc (Ae _) _)).touch aq.touch (λbA=>Ω (bD _ bA)))
 all_goals(have ar:=bq.moved aW.out)
 all_goals(obtain⟨bV,b7,ae,a6,am⟩:=Hu ar b av)
 all_goals(injection ae with ae;injection ae with bt bw;subst bt bw)
 all_goals(clear z B C D E H I aa ab ac ad Q R Z Y bd be bg bh bi bj bk P aq)
 all_goals(have ap:(a.pre.take b).length=b:=by simp;omega)
 all_goals(have a7:KT q bo (iC (Δ e f)) b ((a.pre.take b).map bv):=by have:=ar.take b O1;rwa [<-qm]at this)
 all_goals(obtain⟨bd,be,bg,bh,bi,bj,bk⟩:=EJ M)
 all_goals(obtain⟨wt,X⟩:=ε (q.alloc (iy #[fD (iC (Δ e f)) b b,fP ig 0,fD iD 0 0,fD iD 0 0] 174)))
 all_goals(have aD:CB wt q.heap.size 174 [fD (iC (Δ e f)) b b,fP ig 0,fD iD 0 0,fD iD 0 0]:=X▸heap_alloc_new _ _)
 all_goals(have al:η q wt:=X▸(Below.refl _ _).alloc (Ae _) _)
 all_goals(have aw:=M.ξ al)
 all_goals(obtain⟨z,B,C,D,E,H,I⟩:=EJ aw)
 all_goals(obtain⟨aa,ab,ac,ad,Q,R,Z,Y⟩:=CS aD)
 all_goals(have bE:=(al.cell (p:=Δ e (f+b)) a6).trans am)
 all_goals(rw[X]at z B C D E H I aa ab ac ad Q R Z Y bE)
 all_goals(obtain⟨bc,u⟩:=ε (q.alloc (iy #[fD (iC (Δ e f)) b b,fP ig (s.toNat:Int),fD iD 0 0,fD iD 0 0] 174)))
 all_goals(have aE:CB bc q.heap.size 174 [fD (iC (Δ e f)) b b,fP ig (s.toNat:Int),fD iD 0 0,fD iD 0 0]:=u▸heap_alloc_new _ _)
 all_goals(have U:η q bc:=u▸(Below.refl _ _).alloc (Ae _) _)
 all_goals(obtain⟨bG,bH,bJ,bL,bN,bO,bR⟩:=EJ (M.ξ U))
 all_goals(obtain⟨u0,u1,u2,u3,-⟩:=CS aE)
 all_goals(have bl:=(U.cell (p:=Δ e (f+b)) a6).trans am)
 all_goals(rw[u]at bG bH bJ bL bN bO bR u0 u1 u2 u3 bl)
 all_goals(have S:=λ(r:jD)(g:η q r)=>Um (a4.below g) ⟨a.pre.take b,s,[],[]⟩ (iC (Δ e f)) iD iD b 0 0 (a.pre.getD b 0) ba aZ (by show(a.pre.take b).length<=100;omega) Θ Θ (by show Rd r _ (a.pre.take b).length _;rw[ap];exact(a7.below g).1) Rd.nil Rd.nil (by show a9.made.length<=1000;omega))
 all_goals(replace S:=Ac S)
 all_goals(rw[ap]at S)
 all_goals(have aF:=Ac (u▸U))
 all_goals(generalize a.pre.getD b 0=b6 at*)
 all_goals(generalize a.pre.take b=b8 at*)
 all_goals(clear a4 M aw aD aE al U X u ap a7 ar am)
 all_goals(have b5:(b:Int)<(a.pre.length:Int):=O1)
 all_goals(go_wp2_with fail)
 all_goals(go_region_with(go_at_call 189;go_loud(refine(S.out _ (aF.out.trans ((Dr.drew _).below _))).mono ?_;rintro aX b9⟨rfl,bp,o,v⟩)))
 all_goals(have aL:=Ac (And.intro o (aW.out.trans ((AL.of_below (aF.out.trans ((Dr.drew _).below _))).trans v))))
 all_goals(clear o v)
 all_goals(go_wp2_with fail)
 all_goals(go_ret2)
 all_goals(rw[br.out])
 all_goals(exact⟨rfl,bp,aL.out.1,aL.out.2⟩)
def Ajl{w:jD}{j:Jm}{G:Nat->Prop}(h:FY w base jb x d p L j G)(a:Nd)(o f g:Option Addr)(e i k:Nat)(off t:Int)(lb:UInt8)(rest:List UInt8)(A:Option Addr)(c:Nat)(ah:UInt64)
 (aF:bT w G (fD o a.pre.length e) (fP ig (a.val.toNat:Int)) (fD f a.labels.length i) (fD g a.kids.length k) a)(bt:a.pre.length<=100)(bw:a.labels.length<=100)(bx:a.kids.length<=100)
 (aJ:KT w G A rest.length (rest.map bv))(_:rest.length<=c)(bC:rest.length<=100)(bA:j.made.length<=500)(ae:common a.pre rest<a.pre.length)(bj:common a.pre rest<rest.length)(q:(D8 j {a with pre:=a.pre.drop (common a.pre rest+1)}).2.2≠0):
 Calls prog 159 #[ptr0 jb,.agg #[fD o a.pre.length e,fP ig (a.val.toNat:Int),fD f a.labels.length i,fD g a.kids.length k,fP gZ off,fP .u8 (lb.toNat:Int),fP gZ t],fD A rest.length c,fP ig (ah.toNat:Int)] w (I7 (Jf j a rest ah) base jb x d p L G w):=by
 have P:η w (w.alloc (iy #[fD o a.pre.length e,fP ig (a.val.toNat:Int),fD f a.labels.length i,fD g a.kids.length k,fP gZ off,fP .u8 (lb.toNat:Int),fP gZ t] 176)):=(Below.refl _ _).alloc (Ae _) _;have E:CB (w.alloc (iy #[fD o a.pre.length e,fP ig (a.val.toNat:Int),fD f a.labels.length i,fD g a.kids.length k,fP gZ off,fP .u8 (lb.toNat:Int),fP gZ t] 176)) w.heap.size 176 [fD o a.pre.length e,fP ig (a.val.toNat:Int),fD f a.labels.length i,fD g a.kids.length k,fP gZ off,fP .u8 (lb.toNat:Int),fP gZ t]:=heap_alloc_new _ _;obtain⟨az,ab⟩:=ε (w.alloc (iy #[fD o a.pre.length e,fP ig (a.val.toNat:Int),fD f a.labels.length i,fD g a.kids.length k,fP gZ off,fP .u8 (lb.toNat:Int),fP gZ t] 176));rw[<-ab]at P E;have av:=Ac ab;obtain⟨s,aZ,a0,bl⟩:=aF.reads;obtain⟨m,n,rfl,bB,-⟩:=Hu s _ ae;obtain⟨b,R⟩:=ε (common a.pre rest);have aq:=Ac (λ(J:jD)(l:η w J)=>MH (iC (Δ m n)) A a.pre.length rest.length e c a.pre rest J O1 O1 (s.below l).1 (aJ.below l).1);rw[<-R]at ae aq;obtain⟨⟨bm,bE,aE⟩,S⟩:∃bo,D8 j {a with pre:=a.pre.drop (b+1)}=bo:=⟨_,rfl⟩;have K:=Ac (λ(J:jD)(l:η w J)(aw:Option Addr)(a8:Nat)(bh:aw=(if e=b+1 then iC ((Δ m n):Addr)else iC (Δ m (n+(b+1)))))=>MW (h.below l) {a with pre:=a.pre.drop (b+1)} aw f g a8 i k (by simp;omega) (by simp only;omega) (by simp only;omega)
  (((s.below l).rest rfl O1 bl bh).1) (aZ.below l).1 (a0.below l).1 O1)
 rw[S]at K;simp only[AQ]at K;have bb:=Ac s;have bp:=Ac h.lt;rw[<-R]at bj q;rw[S]at q;simp only at q;have ar:Hid (Jf j a rest ah=(bm,0,aE)):=Ac (by rw[Jf,<-R,ku O1,S];simp only;rw[ku O1,jM q]);have bH:(aE !=0)=true:=by rw[bne_iff_ne];exact q
 clear q;clear h aF aJ S ab s aZ a0;have t1:((b:Int)==(a.pre.length:Int))=false:=ζ O1;have bD:IntKind.i64.wrap ((b:Int)+1)=(b:Int)+1:=wrap64 _ O1 O1;have t2:((b:Int)==(rest.length:Int))=false:=ζ O1;obtain⟨u,v,y,z,B,C,D⟩:=EJ E;clear R;go_enter func159,ntmps159
 go_wp2_with fail
 rw[<-av.out];clear av;refine(aq az P).mono ?_;rintro bd br⟨rfl,ac⟩;have aL:=τ P (ac.below az.heap.size);have H:=E.ξ (ac.below _);obtain⟨bJ,aX,aM,an⟩:=newB br 174 [fD (iC (Δ m n)) a.pre.length e,fP ig (a.val.toNat:Int),fD f a.labels.length i,fD g a.kids.length k];have I:=Ac aL;have bc:=Ac H;obtain⟨u,v,y,z,B,C,D⟩:=EJ (H.ξ aM);obtain⟨V,W,X,Y,M,N,U,T⟩:=CS an;obtain⟨a1,a2,a3,a4,a5,a6,a7⟩:=EJ H;rw[aX]at u v y z B C D V W X Y M N U T;clear E P ac aL H an aM aX
 go_wp2_with fail
 all_goals(refine(K _ (I.alloc I.size _) _ _ (by split<;>first|rfl|omega)).mono ?_)
 all_goals(rintro bd al⟨rfl,a9,aV,ad⟩)
 all_goals(have aD:=Ac ((AL.of_below (F:=G) (I.alloc I.size _)).trans ad))
 all_goals(have Z:=(bc.out.ξ ((Below.refl _ _).alloc (Ae _) _)).touch ad.touch (λbi=>Ω (bp _ bi)))
 all_goals(have aW:=bb.moved aD.out)
 all_goals(obtain⟨bs,bG,aa,bk,aR⟩:=Hu aW b ae)
 all_goals(injection aa with aa;injection aa with be bg;subst be bg)
 all_goals(clear u v y z B C D V W X Y M N U T a1 a2 a3 a4 a5 a6 a7 K ad)
 all_goals(obtain⟨a1,a2,a3,a4,a5,a6,a7⟩:=EJ Z)
 all_goals(obtain⟨wt,r⟩:=ε (al.alloc (iy #[fD (iC (Δ m n)) b b,fP ig 0,fD iD 0 0,fD iD 0 0] 174)))
 all_goals(have ao:CB wt al.heap.size 174 [fD (iC (Δ m n)) b b,fP ig 0,fD iD 0 0,fD iD 0 0]:=r▸heap_alloc_new _ _)
 all_goals(have Q:η al wt:=r▸(Below.refl _ _).alloc (Ae _) _)
 all_goals(have am:=Z.ξ Q)
 all_goals(obtain⟨u,v,y,z,B,C,D⟩:=EJ am)
 all_goals(obtain⟨V,W,X,Y,M,N,U,T⟩:=CS ao)
 all_goals(have bq:=(Q.cell (p:=Δ m (n+b)) bk).trans aR)
 all_goals(rw[r]at u v y z B C D V W X Y M N U T bq)
 all_goals(have ap:=Ac (r▸Q))
 all_goals(have ba:=Ac aV)
 all_goals(clear aV Z am ao Q r aW aR)
 all_goals(go_wp2_with fail)
 all_goals(go_ret2)
 all_goals(refine⟨by rw[ar.out];rfl,a9,?_,aD.out.trans (AL.of_below ap.out)⟩)
 all_goals(rw[ar.out])
 all_goals(exact ba.out.below ap.out)
end
section
variable{base jb x d p L:Nat}
def Ang{w:jD}{j:Jm}{G:Nat->Prop}(h:FY w base jb x d p L j G)(a:Nd)(r m n:Option Addr)(g o q:Nat)(off y:Int)(lb:UInt8)(rest:List UInt8)(A:Option Addr)(c:Nat)(aq:UInt64)
 (aV:bT w G (fD r a.pre.length g) (fP ig (a.val.toNat:Int)) (fD m a.labels.length o) (fD n a.kids.length q) a)(bV:a.pre.length<=100)(bX:a.labels.length<=100)(bY:a.kids.length<=100)
 (aW:KT w G A rest.length (rest.map bv))(_:rest.length<=c)(b3:rest.length<=100)(b1:j.made.length<=500)(ap:common a.pre rest<a.pre.length)(bB:common a.pre rest<rest.length)(U:(D8 j {a with pre:=a.pre.drop (common a.pre rest+1)}).2.2=0)(s:JA ⟨a.pre.take (common a.pre rest),0,[],[]⟩ (a.pre.getD (common a.pre rest) 0) (D8 j {a with pre:=a.pre.drop (common a.pre rest+1)}).2.1=false):
 Calls prog 159 #[ptr0 jb,.agg #[fD r a.pre.length g,fP ig (a.val.toNat:Int),fD m a.labels.length o,fD n a.kids.length q,fP gZ off,fP .u8 (lb.toNat:Int),fP gZ y],fD A rest.length c,fP ig (aq.toNat:Int)] w (I7 (Jf j a rest aq) base jb x d p L G w):=by
 have S:η w (w.alloc (iy #[fD r a.pre.length g,fP ig (a.val.toNat:Int),fD m a.labels.length o,fD n a.kids.length q,fP gZ off,fP .u8 (lb.toNat:Int),fP gZ y] 176)):=(Below.refl _ _).alloc (Ae _) _;have J:CB (w.alloc (iy #[fD r a.pre.length g,fP ig (a.val.toNat:Int),fD m a.labels.length o,fD n a.kids.length q,fP gZ off,fP .u8 (lb.toNat:Int),fP gZ y] 176)) w.heap.size 176 [fD r a.pre.length g,fP ig (a.val.toNat:Int),fD m a.labels.length o,fD n a.kids.length q,fP gZ off,fP .u8 (lb.toNat:Int),fP gZ y]:=heap_alloc_new _ _;obtain⟨aL,al⟩:=ε (w.alloc (iy #[fD r a.pre.length g,fP ig (a.val.toNat:Int),fD m a.labels.length o,fD n a.kids.length q,fP gZ off,fP .u8 (lb.toNat:Int),fP gZ y] 176));rw[<-al]at S J;have aF:=Ac al;obtain⟨v,a6,a7,bD⟩:=aV.reads;obtain⟨k,l,rfl,b2,-⟩:=Hu v _ ap;obtain⟨b,V⟩:=ε (common a.pre rest);have aD:=Ac (λ(e:jD)(i:η w e)=>MH (iC (Δ k l)) A a.pre.length rest.length g c a.pre rest e O1 O1 (v.below i).1 (aW.below i).1);rw[<-V]at ap aD;obtain⟨⟨bE,bG,b0⟩,u⟩:∃bH,D8 j {a with pre:=a.pre.drop (b+1)}=bH:=⟨_,rfl⟩;have bR:=Ac u;have N:=Ac (λ(e:jD)(i:η w e)(aJ:Option Addr)(bi:Nat)(bw:aJ=(if g=b+1 then iC ((Δ k l):Addr)else iC (Δ k (l+(b+1)))))=>MW (h.below i) {a with pre:=a.pre.drop (b+1)} aJ m n bi o q (by simp;omega) (by simp only;omega) (by simp only;omega)
  (((v.below i).rest rfl O1 bD bw).1) (a6.below i).1 (a7.below i).1 O1)
 rw[u]at N;simp only[AQ]at N;have bo:=Ac v;have bJ:=Ac h.lt;rw[<-V]at bB U s;rw[u]at U s;simp only at U s;subst U;have aE:Hid (Jf j a rest aq=(bE,0,5)):=Ac (by rw[Jf,<-V,ku O1,u];simp only;rw[ku O1,ku Θ,ku (by rw[s];exact Bool.false_ne_true)]);have bp:=Ac s;clear s;clear h aV aW u al v a6 a7;have t1:((b:Int)==(a.pre.length:Int))=false:=ζ O1;have b4:IntKind.i64.wrap ((b:Int)+1)=(b:Int)+1:=wrap64 _ O1 O1;have t2:((b:Int)==(rest.length:Int))=false:=ζ O1;obtain⟨z,B,C,D,E,H,I⟩:=EJ J;clear V;go_enter func159,ntmps159
 go_wp2_with fail
 rw[<-aF.out];clear aF;refine(aD aL S).mono ?_;rintro R bN⟨rfl,am⟩;have aX:=τ S (am.below aL.heap.size);have K:=J.ξ (am.below _);obtain⟨ch,a5,a0,aw⟩:=newB bN 174 [fD (iC (Δ k l)) a.pre.length g,fP ig (a.val.toNat:Int),fD m a.labels.length o,fD n a.kids.length q];have M:=Ac aX;have bq:=Ac K;obtain⟨z,B,C,D,E,H,I⟩:=EJ (K.ξ a0);obtain⟨Y,Z,aa,ab,P,Q,X,W⟩:=CS aw;obtain⟨a9,ba,bb,bc,bd,be,bg⟩:=EJ K;rw[a5]at z B C D E H I Y Z aa ab P Q X W;clear J S am aX K aw a0 a5
 go_wp2_with fail
 all_goals(refine(N _ (M.alloc M.size _) _ _ (by split<;>first|rfl|omega)).mono ?_)
 all_goals(rintro R f⟨rfl,az,a3,an⟩)
 all_goals(have aM:=Ac ((AL.of_below (F:=G) (M.alloc M.size _)).trans an))
 all_goals(have ac:=(bq.out.ξ ((Below.refl _ _).alloc (Ae _) _)).touch an.touch (λbx=>Ω (bJ _ bx)))
 all_goals(have ao:=bo.moved aM.out)
 all_goals(obtain⟨bS,b7,ah,bC,a1⟩:=Hu ao b ap)
 all_goals(injection ah with ah;injection ah with bs bt;subst bs bt)
 all_goals(clear z B C D E H I Y Z aa ab P Q X W a9 ba bb bc bd be bg N an)
 all_goals(have bA:(a.pre.take b).length=b:=by simp;omega)
 all_goals(have a4:KT f az (iC (Δ k l)) b ((a.pre.take b).map bv):=by have:=ao.take b O1;rwa [<-qm]at this)
 all_goals(obtain⟨a9,ba,bb,bc,bd,be,bg⟩:=EJ ac)
 all_goals(obtain⟨wt,t⟩:=ε (f.alloc (iy #[fD (iC (Δ k l)) b b,fP ig 0,fD iD 0 0,fD iD 0 0] 174)))
 all_goals(have ad:CB wt f.heap.size 174 [fD (iC (Δ k l)) b b,fP ig 0,fD iD 0 0,fD iD 0 0]:=t▸heap_alloc_new _ _)
 all_goals(have T:η f wt:=t▸(Below.refl _ _).alloc (Ae _) _)
 all_goals(have ar:=ac.ξ T)
 all_goals(obtain⟨z,B,C,D,E,H,I⟩:=EJ ar)
 all_goals(obtain⟨Y,Z,aa,ab,P,Q,X,W⟩:=CS ad)
 all_goals(have bL:=(T.cell (p:=Δ k (l+b)) bC).trans a1)
 all_goals(rw[t]at z B C D E H I Y Z aa ab P Q X W bL)
 all_goals(have a8:=Ac (λ(e:jD)(i:η f e)=>Acr (iC (Δ k l)) iD iD b b 0 0 0 0 ⟨a.pre.take b,0,[],[]⟩ (a.pre.getD b 0) bG e O1 O1 O1 (by show Rd e _ _ _;exact(a4.below i).1) Rd.nil Rd.nil bp.out))
 all_goals(unfold PZ at a8)
 all_goals(have ae:=Ac (t▸T))
 all_goals(have bk:=Ac (t▸ad))
 all_goals(have bm:=Ac a3)
 all_goals(generalize a.pre.getD b 0=b6 at*)
 all_goals(generalize a.pre.take b=b8 at*)
 all_goals(clear a3 ac ar ad T t bA a4 ao a1)
 all_goals(have b5:(b:Int)<(a.pre.length:Int):=O1)
 all_goals(go_wp2_with fail)
 all_goals(go_region_with(go_at_call 190;go_loud(refine(a8.out _ (ae.out.trans ((Dr.drew _).below _))).mono ?_;rintro R bO⟨rfl,aZ⟩;have bj:=(ae.out.trans ((Dr.drew _).below _)).trans (aZ.mono (ae.out.trans ((Dr.drew _).below _)).size);have av:=bk.out.ξ (((Dr.drew _).below _).trans aZ);obtain⟨b9,ca,cb,cc,cd,ce,cf,cg⟩:=CS av)))
 all_goals(obtain⟨br,aR,-,bh,-⟩:=Ae8 av bj (Ae _) (fD iD 0 0) (fP ig 0) (fD iD 0 0) (fD iD 0 0))
 all_goals(have bl:Hid (∀e,(e=(((bO.setCell (Φ f.heap.size) (fD iD 0 0)).setCell (Δ f.heap.size 1) (fP ig 0)).setCell (Δ f.heap.size 2) (fD iD 0 0)).setCell (Δ f.heap.size 3) (fD iD 0 0))->η f e):=Ac (λe R=>by rw[R,<-aR];exact bh))
 all_goals(clear aR bh br)
 all_goals(go_wp2_with fail)
 all_goals(go_ret2)
 all_goals(have a2:=bl _ rfl)
 all_goals(refine⟨by rw[aE.out];rfl,az,?_,aM.out.trans (AL.of_below a2)⟩)
 all_goals(rw[aE.out])
 all_goals(exact bm.out.below a2)
end
def Gof(F:Nat->Prop)(jb:Nat)(v:Value)(b:Nat):Prop:=F b\/b=jb\/v.ownBlock=iC b
section
variable{w w':jD}{base jb x d p L:Nat}{j:Jm}{F G:Nat->Prop}{v:Value}
def Px.move'(h:Px w base jb x d p L j F v){s':Ms}{a:Nat->Prop}(f:KF w' d p L s' a)(m:AL F a w w'):Px w' base jb x d p L {j with s:=s'} a v/\AL (Gof F jb v) (Gof a jb v) w w':=by
 obtain⟨k,g,i,c⟩:=h.move (G:=Gof F jb v) (λ_=>Iff.rfl) f m;refine⟨g,c.touch,λb e=>c.own b ((i b).2 e)⟩
def uH{b:Type}(l:List b)(k:Nat)(a:k<l.length):l.drop k=l[k]::l.drop (k+1):=List.drop_eq_getElem_cons a
def RP(r:Ms×Int)(base jb x d p L:Nat)(j:Jm)(G:Nat->Prop)(w:jD)(e:Ending)(w':jD):Prop:=
 e=.returned (fP gZ r.2)/\∃a,FY w' base jb x d p L {j with s:=r.1} a/\AL G a w w'
def dB(h:FY w base jb x d p L j G)(e:Int)(am:Int)(P:UInt64)(A:Option Addr)(c:Nat)(aL:List Int)(aX:j.made.length<=1000)(l:Ms)(f:Int)
 (aE:(e≠0/\l=j.s/\e=f)\/(e=0/\f≠0/\∃y:Nat,am=((8*y:Nat):Int)/\y<8*L/\JE j.s 3 (Dt j.s.s.ws y P)=(l,f))):
 Calls prog 158 #[ptr0 jb,fP gZ e,fP gZ am,fP ig (P.toNat:Int),fD A aL.length c] w (RP (KH l j.made,f) base jb x d p L j G w):=by
 obtain⟨F,v,i,R⟩:=h;have az:G=Gof F jb v:=funext λav=>propext (R av)
 subst az;obtain⟨m,u,rfl,aV,-⟩:=Cj (EU i.row (BA _));have B:=i.box.cell 0;have C:=i.box.cell 1;have u0:=i.ix.box.cell 0;simp only[Ag,Am]at B C u0;obtain⟨t,K⟩:∃t,KH l j.made=t:=⟨_,rfl⟩;rw[K];have ar:=Ac K;have o:=Ac i;clear i R K;rcases aE with⟨E,ab,V⟩|⟨rfl,U,y,ah,aF,ac⟩
 case' inl=>
  rw[V]at E⊢;have t1:(f==0)=false:=ζ E;have t2:(f !=0)=true:=by rw[bne_iff_ne];exact E
  have H:Hid (Px w base jb x d p L {j with s:=l} F (fD m j.made.length u)):=Ac (by rw[ab];exact o.out);have I:=Ac (AL.refl (Gof F jb (fD m j.made.length u)) w);clear E o ab V;go_enter func158,ntmps158
  go_wp2_with fail
 case' inr=>
  have r:=Qw o.ix.sys y P aF;rw[<-ah,ac]at r;have r:=Ac r;have t2:(f !=0)=true:=by rw[bne_iff_ne];exact U
  clear ah ac U;go_enter func158,ntmps158
  go_wp2_with fail
  refine r.out.mono ?_;rintro e a4⟨rfl,aM,ad,Y⟩;obtain⟨k,z⟩:=o.move' ad Y;have H:=Ac k;have I:=Ac z;clear ad Y r u0 o B C z;have C:=k.box.cell 1;simp only[Ag,Am]at C;clear k
  go_wp2_with fail
 all_goals
  clear C
  go_loopw [35](λN wr=>∃(a:Nat)(n:Nat->Prop)(g:Ms),a<=j.made.length/\N=fP gZ (a:Nat)/\KH g (j.made.drop a)=t/\Px wr base jb x d p L {j with s:=g} n (fD m j.made.length u)/\AL (Gof F jb (fD m j.made.length u)) (Gof n jb (fD m j.made.length u)) w wr)(λN _=>j.made.length-(intOf N).toNat)
  case atStart=>exact⟨0,_,l,BA _,rfl,ar.out,H.out,I.out⟩
  case round=>
   obtain⟨a,n,g,aW,rfl,T,X,aa⟩:=hrel;have J:=Ac aa;have al:=Ac T;have b:=Ac X;clear aa T X H I;by_cases M:a<j.made.length
   ·have B:=b.box.cell 0;have u1:=b.ix.box.cell 1;simp only[Ag,Am]at B u1;obtain⟨a2,a3,rfl,aZ,S⟩:=(CQ b.row).2.2 O1;have D:=S a M;rw[DJ,Ah M]at D;replace D:_=iC (Value.int gZ j.made[a]):=D;have W: -9223372036854775808<=j.made[a]/\j.made[a]<=9223372036854775807:=b.mb _ (Cm _);have aw:Hid (KH (Dz g j.made[a]).1 (j.made.drop (a+1))=t):=Ac (by rw[<-al.out,uH _ _ M];rfl);have Q:=Ac (KG (q:=g) b.ix.sys j.made[a] W);generalize j.made[a]=aJ at*;clear S W;have a1:(a:Int)<(j.made.length:Int):=O1;have a0:IntKind.i64.wrap ((a:Int)+1)=(a:Int)+1:=wrap64 _ O1 O1
    go_wp2_with fail
    refine Q.mono ?_;rintro aR a5⟨rfl,an,ae,Z⟩;obtain⟨k,z⟩:=b.move' ae Z;have ap:=Ac k;have ao:=Ac (J.trans z);clear k z ae Z Q B u1 D b J
    go_wp2_with fail
    go_roundw
    case rel=>exact⟨a+1,an,(Dz g aJ).1,O1,by go_num,aw.out,ap.out,ao.out⟩
    case measure=>simp[intOf];omega
   ·have aD:a=j.made.length:=O1;subst aD;have aq:Hid (g=t):=Ac (by have:=al.out;rw[Ag2]at this;exact this)
    go_wp2_with fail
    go_ret;refine⟨rfl,Gof n jb _,?_,J.out⟩;rw[<-aq.out];exact⟨n,_,b.out,λ_=>Iff.rfl⟩
def uI(h:FY w base jb x d p L j G)(B:Int)(i:Nat)(J:B=((8*i:Nat):Int))(ao:i<8*L)(m:UInt64)(A:Option Addr)(c:Nat)(a:List Int)(W:KT w G A a.length (a.map zv))(al:∀n∈a,-9223372036854775808<=n/\n<=9223372036854775807)(aW:a.length<=1000)(ac:j.made.length<=1000):
 Calls prog 158 #[ptr0 jb,fP gZ 0,fP gZ B,fP ig (m.toNat:Int),fD A a.length c] w (RP (Eo j 0 B m a) base jb x d p L j G w):=by
 obtain⟨⟨k,e⟩,I⟩:∃az,JE j.s 3 (Dt j.s.s.ws i m)=az:=⟨_,rfl⟩;have H:Eo j 0 B m a=if e=0 then JF k a 0 else(KH k j.made,e):=by unfold Eo;rw[ku Θ,J,show((8*i:Nat):Int).toNat/8=i by omega,I]
 by_cases g:e=0
 case neg=>
  rw[H,ku g];exact dB h 0 B m A c a ac k e (.inr ⟨rfl,g,i,J,ao,I⟩)
 subst g;rw[jM rfl]at H;rw[H];clear H ac;obtain⟨F,v,u,V⟩:=h;have aJ:G=Gof F jb v:=funext λaD=>propext (V aD)
 subst aJ;have r:=Qw u.ix.sys i m ao;rw[<-J,I]at r;have r:=Ac r;have ar:=Ac u;have av:=Ac W;have aw:=Ac al;have C:=u.box.cell 0;have u0:=u.ix.box.cell 0;simp only[Ag]at C u0;clear u V W al J I;go_enter func158,ntmps158
 go_wp2_with fail
 refine r.out.mono ?_;rintro aM a3⟨rfl,aq,am,ad⟩;obtain⟨y,z⟩:=ar.move' am ad;have Q:=Ac y;have R:=Ac z;clear y z am ad r C u0
 go_wp2_with fail
 go_loopw [1,52](λaF N wr=>∃(b:Nat)(o:Nat->Prop)(f:Ms)(e:Int),b<=a.length/\aF=fP gZ e/\N=fP gZ (b:Nat)/\JF f (a.drop b) e=JF k a 0/\Px wr base jb x d p L {j with s:=f} o v/\AL (Gof F jb v) (Gof o jb v) w wr)(λ_ N _=>a.length-(intOf N).toNat)
 case atStart=>exact⟨0,aq,k,0,BA _,rfl,rfl,rfl,Q.out,R.out⟩
 case round=>
  obtain⟨b,o,f,e,aV,rfl,rfl,Z,ab,ah⟩:=hrel;have D:=Ac ah;have ap:=Ac Z;have l:=Ac ab;clear ah Z ab Q R;by_cases M:b<a.length
  ·have C:=l.box.cell 0;have u1:=l.ix.box.cell 1;simp only[Ag,Am]at C u1;obtain⟨a1,a2,rfl,aX,X⟩:=(av.moved D.out).1.2 O1;have E:=X b M;rw[DJ,Ah M]at E;replace E:_=iC (Value.int gZ a[b]):=E;have aa: -9223372036854775808<=a[b]/\a[b]<=9223372036854775807:=aw _ (Cm _);have t:Hid (JF (Dz f a[b]).1 (a.drop (b+1)) (if e=0 then(Dz f a[b]).2 else e)=JF k a 0):=Ac (by rw[<-ap.out,uH _ _ M];rfl);have K:=Ac (KG (q:=f) l.ix.sys a[b] aa);generalize a[b]=n at*;obtain⟨aE,Y⟩:=ε ((Dz f n).2);rw[<-Y]at t K;clear X aa Y;have a0:(b:Int)<(a.length:Int):=O1;have aZ:IntKind.i64.wrap ((b:Int)+1)=(b:Int)+1:=wrap64 _ O1 O1
   go_wp2_with fail
   refine K.mono ?_;rintro aR a4⟨rfl,P,an,ae⟩;obtain⟨y,z⟩:=l.move' an ae;have T:=Ac y;have S:=Ac (D.trans z);clear y z an ae K C u1 E l D;by_cases g:e=0
   ·subst g;rw[jM rfl]at t
    go_wp2_with fail
    go_roundw
    case rel=>exact⟨b+1,P,(Dz f n).1,aE,O1,rfl,by go_num,t.out,T.out,S.out⟩
    case measure=>simp[intOf];omega
   ·rw[ku g]at t;have t5:(e==0)=false:=ζ g
    go_wp2_with fail
    go_roundw
    case rel=>exact⟨b+1,P,(Dz f n).1,e,O1,rfl,by go_num,t.out,T.out,S.out⟩
    case measure=>simp[intOf];omega
  ·have aL:b=a.length:=O1;subst aL;have U:Hid ((f,e)=JF k a 0):=Ac (by have:=ap.out;rw[Ag2]at this;exact this)
   go_wp2_with fail
   go_ret;refine⟨by rw[<-U.out];rfl,Gof o jb _,?_,D.out⟩;rw[<-U.out];exact⟨o,_,l.out,λ_=>Iff.rfl⟩
def RQ(h:FY w base jb x d p L j G)(e:Int)(b:Int)(i:Nat)(q:b=((8*i:Nat):Int))(r:i<8*L)(f:UInt64)(A:Option Addr)(c:Nat)(a:List Int)(m:KT w G A a.length (a.map zv))(n:∀l∈a,-9223372036854775808<=l/\l<=9223372036854775807)(o:a.length<=1000)(k:j.made.length<=1000):
 Calls prog 158 #[ptr0 jb,fP gZ e,fP gZ b,fP ig (f.toNat:Int),fD A a.length c] w (RP (Eo j e b f a) base jb x d p L j G w):=by
 by_cases g:e=0
 ·subst g;exact uI h b i q r f A c a m n o k
 ·rw[show Eo j e b f a=(KH j.s j.made,e)by unfold Eo;rw[jM g]];exact dB h e b f A c a k j.s e (.inl ⟨g,rfl,rfl⟩)
end
