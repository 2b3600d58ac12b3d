import Derived.Test.YtfmkofmaabgbkaaGreatDoorJ17
set_option linter.defProp false
set_option maxHeartbeats 32000000
set_option maxRecDepth 100000
open Nat renaming le_refl->Ae,le_trans->Bq,le_add_right->Zd,lt_succ_self->Ze
open Go.Lib renaming hid->Ac
open List renaming length_drop->AQ
open Go.World renaming drew->gm
open Go.Value renaming slice->fD,int->fP
open Go.IntKind renaming i64->gZ,u64->ig
namespace Go.Proofs.YtfmkofmaabgbkaaGreatDoor
open Go.RowKit
open Go.Proofs.Tryz
section
variable{base jb x d p L:Nat}
def Ajk{w:World}{j:Jm}{G:Nat->Prop}(h:FY w base jb x d p L j G)(a:Nd)(D n o:Option Addr)(i q r:Nat)(off Z:Int)(lb:UInt8)(rest:List UInt8)(A:Option Addr)(c:Nat)(M:UInt64)
 (b2:bT w G (fD D a.pre.length i) (fP ig (a.val.toNat:Int)) (fD n a.labels.length q) (fD o a.kids.length r) a)(cT:a.pre.length<=100)(cU:a.labels.length<=100)(cV:a.kids.length<=100)
 (av:KT w G A rest.length (rest.map bv))(cE:rest.length<=c)(c2:rest.length<=100)(cY:j.made.length<=500)(be:common a.pre rest<a.pre.length)(ba:common a.pre rest<rest.length)(aD:(D8 j {a with pre:=a.pre.drop (common a.pre rest+1)}).2.2=0)(H:JA ⟨a.pre.take (common a.pre rest),0,[],[]⟩ (a.pre.getD (common a.pre rest) 0) (D8 j {a with pre:=a.pre.drop (common a.pre rest+1)}).2.1=true):
 Calls prog 159 #[ptr0 jb,.agg #[fD D a.pre.length i,fP ig (a.val.toNat:Int),fD n a.labels.length q,fD o a.kids.length r,fP gZ off,fP .u8 (lb.toNat:Int),fP gZ Z],fD A rest.length c,fP ig (M.toNat:Int)] w (I7 (Jf j a rest M) base jb x d p L G w):=by
 have aw:η w (w.alloc (.cells #[fD D a.pre.length i,fP ig (a.val.toNat:Int),fD n a.labels.length q,fD o a.kids.length r,fP gZ off,fP .u8 (lb.toNat:Int),fP gZ Z] 176)):=(Below.refl _ _).alloc (Ae _) _;have ae:CB (w.alloc (.cells #[fD D a.pre.length i,fP ig (a.val.toNat:Int),fD n a.labels.length q,fD o a.kids.length r,fP gZ off,fP .u8 (lb.toNat:Int),fP gZ Z] 176)) w.heap.size 176 [fD D a.pre.length i,fP ig (a.val.toNat:Int),fD n a.labels.length q,fD o a.kids.length r,fP gZ off,fP .u8 (lb.toNat:Int),fP gZ Z]:=heap_alloc_new _ _;obtain⟨b0,a4⟩:=ε (w.alloc (.cells #[fD D a.pre.length i,fP ig (a.val.toNat:Int),fD n a.labels.length q,fD o a.kids.length r,fP gZ off,fP .u8 (lb.toNat:Int),fP gZ Z] 176));rw[<-a4]at aw ae;have bL:=Ac a4;obtain⟨s,Y,cg,cD⟩:=b2.reads;obtain⟨l,m,rfl,c0,-⟩:=Hu s _ be;obtain⟨b,aE⟩:=ε (common a.pre rest);have bG:=Ac (λ(g:World)(e:η w g)=>MH (some (Δ l m)) A a.pre.length rest.length i c a.pre rest g O1 O1 (s.below e).1 (av.below e).1);rw[<-aE]at be bG;obtain⟨⟨bh,K,cW⟩,I⟩:∃bi,D8 j {a with pre:=a.pre.drop (b+1)}=bi:=⟨_,rfl⟩;have b7:=KU j {a with pre:=a.pre.drop (b+1)};rw[I]at b7;simp only at b7;have cS:=Ac I;have aq:=Ac (λ(g:World)(e:η w g)(S:Option Addr)(al:Nat)(a3:S=(if i=b+1 then some ((Δ l m):Addr)else some (Δ l (m+(b+1)))))=>MW (h.below e) {a with pre:=a.pre.drop (b+1)} S n o al q r (by simp;omega) (by simp only;omega) (by simp only;omega)
  (((s.below e).rest rfl O1 cD a3).1) (Y.below e).1 (cg.below e).1 O1)
 rw[I]at aq;simp only[AQ]at aq;have cs:=Ac s;have bJ:=Ac av;have cP:=Ac h.lt;rw[<-aE]at ba aD H;rw[I]at aD H;simp only at aD H;subst aD;obtain⟨⟨aJ,ap,ao⟩,aF⟩:∃bi,JO (rest.length+1) bh (rest.drop (b+1)) M=bi:=⟨_,rfl⟩;have bs:=MV (rest.length+1) bh (rest.drop (b+1)) M;rw[aF]at bs;simp only at bs;have cv:Hid (Jf j a rest M=Gn aJ (NC ⟨a.pre.take b,0,[],[]⟩ (a.pre.getD b 0) K) (rest.getD b 0) ap ao):=Ac (by rw[Jf,<-aE,ku O1,I];simp only;rw[ku O1,ku Θ,jM H,aF];rfl);have ct:=Ac H;have cw:=Ac aF;obtain⟨ci,cj,rfl,c3,-⟩:=Hu av _ ba;clear H aF;clear h b2 av I a4 s Y cg;have t1:((b:Int)==(a.pre.length:Int))=false:=ζ O1;have c4:IntKind.i64.wrap ((b:Int)+1)=(b:Int)+1:=wrap64 _ O1 O1;have t2:((b:Int)==(rest.length:Int))=false:=ζ O1;obtain⟨y,z,B,C,N,P,Q⟩:=EJ ae;clear aE;go_enter func159,ntmps159
 go_wp2_with fail
 rw[<-bL.out];clear bL;refine(bG b0 aw).mono ?_;rintro ar cQ⟨rfl,a8⟩;have b4:=τ aw (a8.below b0.heap.size);have ah:=ae.ξ (a8.below _);obtain⟨db,b9,b5,bB⟩:=newB cQ 174 [fD (some (Δ l m)) a.pre.length i,fP ig (a.val.toNat:Int),fD n a.labels.length q,fD o a.kids.length r];have am:=Ac b4;have cy:=Ac ah;obtain⟨y,z,B,C,N,P,Q⟩:=EJ (ah.ξ b5);obtain⟨aa,ab,ac,ad,T,U,X,W⟩:=CS bB;obtain⟨bk,bl,bm,bo,bp,bq,br⟩:=EJ ah;rw[b9]at y z B C N P Q aa ab ac ad T U X W;clear ae aw a8 b4 ah bB b5 b9
 go_wp2_with fail
 all_goals(refine(aq _ (am.alloc am.size _) _ _ (by split<;>first|rfl|omega)).mono ?_)
 all_goals(rintro ar f⟨rfl,bD,a9,bb⟩)
 all_goals(have a0:=Ac ((AL.of_below (F:=G) (am.alloc am.size _)).trans bb))
 all_goals(have aM:=(cy.out.ξ ((Below.refl _ _).alloc (Ae _) _)).touch bb.touch (λk=>Ω (cP _ k)))
 all_goals(have bd:=cs.moved a0.out)
 all_goals(obtain⟨cA,cF,u,cC,a7⟩:=Hu bd b be)
 all_goals(injection u with u;injection u with a1 a2;subst a1 a2)
 all_goals(clear y z B C N P Q aa ab ac ad T U X W bk bl bm bo bp bq br aq bb)
 all_goals(have cB:(a.pre.take b).length=b:=by simp;omega)
 all_goals(have b8:KT f bD (some (Δ l m)) b ((a.pre.take b).map bv):=by have:=bd.take b O1;rwa [<-List.map_take]at this)
 all_goals(obtain⟨bk,bl,bm,bo,bp,bq,br⟩:=EJ aM)
 all_goals(obtain⟨wt,J⟩:=ε (f.alloc (.cells #[fD (some (Δ l m)) b b,fP ig 0,fD none 0 0,fD none 0 0] 174)))
 all_goals(have aV:CB wt f.heap.size 174 [fD (some (Δ l m)) b b,fP ig 0,fD none 0 0,fD none 0 0]:=J▸heap_alloc_new _ _)
 all_goals(have az:η f wt:=J▸(Below.refl _ _).alloc (Ae _) _)
 all_goals(have bw:=aM.ξ az)
 all_goals(obtain⟨y,z,B,C,N,P,Q⟩:=EJ bw)
 all_goals(obtain⟨aa,ab,ac,ad,T,U,X,W⟩:=CS aV)
 all_goals(have cn:=(az.cell (p:=Δ l (m+b)) cC).trans a7)
 all_goals(rw[J]at y z B C N P Q aa ab ac ad T U X W cn)
 all_goals(have ch:=Ac (λ(g:World)(e:η f g)=>uD (some (Δ l m)) none none b b 0 0 0 0 ⟨a.pre.take b,0,[],[]⟩ (a.pre.getD b 0) K g O1 O1 O1 (by show Rd g _ _ _;exact(b8.below e).1) Rd.nil Rd.nil ct.out))
 all_goals(have bc:(NC ⟨a.pre.take b,0,[],[]⟩ (a.pre.getD b 0) K).pre.length<=100/\(NC ⟨a.pre.take b,0,[],[]⟩ (a.pre.getD b 0) K).labels.length<=100/\(NC ⟨a.pre.take b,0,[],[]⟩ (a.pre.getD b 0) K).kids.length<=100:=by unfold NC ins;simp;omega)
 all_goals(generalize NC ⟨a.pre.take b,0,[],[]⟩ (a.pre.getD b 0) K=t at*)
 all_goals(have aX:=Ac (J▸az))
 all_goals(have bE:=Ac (J▸aV))
 all_goals(have cq:=Ac a9)
 all_goals(have an:=Ac a9.lt)
 all_goals(generalize a.pre.getD b 0=c7 at*)
 all_goals(generalize a.pre.take b=c8 at*)
 all_goals(clear a9 aM bw aV az J cB b8 bd a7)
 all_goals(have c5:(b:Int)<(a.pre.length:Int):=O1)
 all_goals(go_wp2_with fail)
 all_goals(go_region_with(go_at_call 190;go_loud(refine(ch.out _ (aX.out.trans ((Dr.drew _).below _))).mono ?_;rintro ar c9⟨⟨bN,ca,bO,cb,bR,cc,rfl,cd,ce,cf⟩,a6⟩;have bC:=(aX.out.trans ((Dr.drew _).below _)).trans (a6.mono (aX.out.trans ((Dr.drew _).below _)).size);have aR:=bE.out.ξ (((Dr.drew _).below _).trans a6);have bg:=bE.out.lt;have bS:=EU (base':=f.heap.size+1) cd (by show f.heap.size+1<=(gm _).heap.size+2;exact Bq bg (Zd _ 2));have bV:=EU (base':=f.heap.size+1) ce (by show f.heap.size+1<=(gm _).heap.size+2;exact Bq bg (Zd _ 2));have bX:=EU (base':=f.heap.size+1) cf (by show f.heap.size+1<=(gm _).heap.size+2;exact Bq bg (Zd _ 2));clear cd ce cf;obtain⟨cG,cH,cI,cJ,cK,cL,cM,cN⟩:=CS aR)))
 all_goals(obtain⟨cz,b1,bA,co,aL⟩:=Ae8 aR bC (Ae _) (fD bN t.pre.length ca) (fP ig (t.val.toNat:Int)) (fD bO t.labels.length cb) (fD bR t.kids.length cc))
 all_goals(have aZ:=Ac (And.intro (L8 bS aL (Ze _)) (And.intro (L8 bV aL (Ze _)) (L8 bX aL (Ze _)))))
 all_goals(have aW:=Ac co)
 all_goals(have cr:=Ac bA)
 all_goals(have cx:=Ac b1)
 all_goals(clear b1 co aL bA bS bV bX aR bC a6 ch y z B C N P Q aa ab ac ad T U X W bk bl bm bo bp bq br cn)
 all_goals(go_wp2_with fail)
 all_goals(rw[<-cx.out])
 all_goals(have R:=λ(S:Option Addr)(al:Nat)(cX:al=c-(b+1))(a3:S=(if c=b+1 then some ((Δ ci cj):Addr)else some (Δ ci (cj+(b+1)))))=>WM (rest.length+1) cz bh bD (rest.drop (b+1)) M S al (cq.out.below aW.out) (((bJ.moved a0.out).below aW.out).rest rfl O1 cE a3) (by rw[AQ];omega) (by rw[AQ];omega) (by rw[AQ];omega) O1)
 all_goals(rw[cw.out,AQ]at R)
 all_goals(replace R:=Ac R)
 all_goals(refine(R.out _ _ O1 (by split<;>first|rfl|omega)).mono ?_)
 all_goals(rintro ar bj⟨rfl,cR,b6,E⟩)
 all_goals(have bY:=Ac (a0.out.trans ((AL.of_below aW.out).trans E)))
 all_goals(have bx:=cr.out.touch E.touch (λk=>Ω (an.out _ k)))
 all_goals(have ck:=(KT.OH aZ.out.1 (λV b3 _ k=>Ω (an.out V k))).moved E)
 all_goals(have cl:=(KT.OH aZ.out.2.1 (λV b3 _ k=>Ω (an.out V k))).moved E)
 all_goals(have cm:=(KT.OH aZ.out.2.2 (λV b3 _ k=>Ω (an.out V k))).moved E)
 all_goals(obtain⟨cA,cF,u,c1,a7⟩:=Hu (bJ.moved bY.out) b ba)
 all_goals(injection u with u;injection u with a1 a2;subst a1 a2)
 all_goals(have a5:=λ(g:World)(e:η bj g)=>Um (b6.below e) t bN bO bR ca cb cc (rest.getD b 0) ap ao bc.1 bc.2.1 bc.2.2 (ck.below e).1 (cl.below e).1 (cm.below e).1 (by show aJ.made.length<=1000;omega))
 all_goals(replace a5:=Ac a5)
 all_goals(generalize rest.getD b 0=bt at*)
 all_goals(clear b6 E ck cl cm R cG cH cI cJ cK cL cM cN)
 all_goals(obtain⟨y,z,B,C,-⟩:=CS bx)
 all_goals(clear bx)
 all_goals(have c6:(b:Int)<(rest.length:Int):=O1)
 all_goals(go_wp2_with fail)
 all_goals(go_region_with(go_at_call 189;go_loud(refine(a5.out _ ((Dr.drew bj).below _)).mono ?_;rintro ar da⟨rfl,cp,s,Y⟩)))
 all_goals(have bH:=Ac (And.intro s (bY.out.trans ((AL.of_below ((Dr.drew bj).below _)).trans Y))))
 all_goals(clear s Y)
 all_goals(go_wp2_with fail)
 all_goals(refine bodyPost_ret (v:=.tuple #[fP ig ((Gn aJ t bt ap ao).2.1.toNat:Int),fP gZ (Gn aJ t bt ap ao).2.2]) (by simp[results,results159,go_sem]) rfl ?_)
 all_goals(rw[cv.out])
 all_goals(exact⟨rfl,cp,bH.out.1,bH.out.2⟩)
end
