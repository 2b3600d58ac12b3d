import Derived.Test.YtekhjimghoibfaaGreatDoorI14
set_option linter.defProp false
set_option maxHeartbeats 32000000
set_option maxRecDepth 100000
open Nat renaming le_refl->Ad,le_trans->Bi,le_add_right->Yp,lt_succ_self->Yq
open Go.Lib renaming hid->Aa
open List renaming length_drop->AU
open Go.World renaming drew->df
namespace Go.Proofs.YtekhjimghoibfaaGreatDoor
open Go.RowKit
open Go.Proofs.Tryz
section
variable{base jb x d p L:Nat}
def Ahc{w:World}{r:Jm}{G:Nat->Prop}(h:FZ w base jb x d p L r G)(a:Nd)(D m n:Option Addr)(i o q:Nat)(off ab:Int)(lb:UInt8)(rest:List UInt8)(A:Option Addr)(c:Nat)(N:UInt64)
 (cc:ZK w G (.slice D a.pre.length i) (.int .u64 (a.val.toNat:Int)) (.slice m a.labels.length o) (.slice n a.kids.length q) a)(c7:a.pre.length<=100)(c8:a.labels.length<=100)(c9:a.kids.length<=100)
 (az:Jo w G A rest.length (rest.map bv))(cP:rest.length<=c)(dh:rest.length<=100)(dd:r.made.length<=500)(bi:common a.pre rest<a.pre.length)(bd:common a.pre rest<rest.length)(aE:(DD r {a with pre:=a.pre.drop (common a.pre rest+1)}).2.2=0)(I:Jy ⟨a.pre.take (common a.pre rest),0,[],[]⟩ (a.pre.getD (common a.pre rest) 0) (DD r {a with pre:=a.pre.drop (common a.pre rest+1)}).2.1=true):
 Calls prog 103 #[Az jb,.agg #[.slice D a.pre.length i,.int .u64 (a.val.toNat:Int),.slice m a.labels.length o,.slice n a.kids.length q,.int .i64 off,.int .u8 (lb.toNat:Int),.int .i64 ab],.slice A rest.length c,.int .u64 (N.toNat:Int)] w (IA (Jd r a rest N) base jb x d p L G w):=by
 have aB:η w (w.alloc (.cells #[.slice D a.pre.length i,.int .u64 (a.val.toNat:Int),.slice m a.labels.length o,.slice n a.kids.length q,.int .i64 off,.int .u8 (lb.toNat:Int),.int .i64 ab] 197)):=(Below.refl _ _).alloc (Ad _) _;have al:CQ (w.alloc (.cells #[.slice D a.pre.length i,.int .u64 (a.val.toNat:Int),.slice m a.labels.length o,.slice n a.kids.length q,.int .i64 off,.int .u8 (lb.toNat:Int),.int .i64 ab] 197)) w.heap.size 197 [.slice D a.pre.length i,.int .u64 (a.val.toNat:Int),.slice m a.labels.length o,.slice n a.kids.length q,.int .i64 off,.int .u8 (lb.toNat:Int),.int .i64 ab]:=heap_alloc_new _ _;obtain⟨ca,a7⟩:=ε (w.alloc (.cells #[.slice D a.pre.length i,.int .u64 (a.val.toNat:Int),.slice m a.labels.length o,.slice n a.kids.length q,.int .i64 off,.int .u8 (lb.toNat:Int),.int .i64 ab] 197));rw[<-a7]at aB al;have b0:=Aa a7;obtain⟨s,aa,ct,ck⟩:=cc.reads;obtain⟨k,l,rfl,de,-⟩:=Hm s _ bi;obtain⟨b,H⟩:=ε (common a.pre rest);have dc:b<=rest.length:=by rw[H];exact FM _ _
 have bV:=Aa (λ(g:World)(e:η w g)=>LK (some (Δ k l)) A a.pre.length rest.length i c a.pre rest g O O (s.below e).1 (az.below e).1);rw[<-H]at bi bV;have c4:Hid (b=common a.pre rest):=Aa H;obtain⟨⟨bk,M,da⟩,J⟩:∃bl,DD r {a with pre:=a.pre.drop (b+1)}=bl:=⟨_,rfl⟩;have ch:=Iu r {a with pre:=a.pre.drop (b+1)};rw[J]at ch;simp only at ch;have c6:=Aa J;have av:=Aa (λ(g:World)(e:η w g)(U:Option Addr)(an:Nat)(a6:U=(if i=b+1 then some ((Δ k l):Addr)else some (Δ k (l+(b+1)))))=>Md (h.below e) {a with pre:=a.pre.drop (b+1)} U m n an o q (by simp;omega) (by simp only;omega) (by simp only;omega)
  (((s.below e).rest rfl O ck a6).1) (aa.below e).1 (ct.below e).1 O)
 rw[J]at av;simp only[AU]at av;have cE:=Aa s;have bX:=Aa az;have cT:=Aa h.lt;have c5:=Aa ck;rw[<-H]at bd aE I;rw[J]at aE I;simp only at aE I;subst aE;obtain⟨⟨aH,ar,aq⟩,aG⟩:∃bl,JA (rest.length+1) bk (rest.drop (b+1)) N=bl:=⟨_,rfl⟩;have bA:=LZ (rest.length+1) bk (rest.drop (b+1)) N;rw[aG]at bA;simp only at bA;have cG:Hid (Jd r a rest N=Gj aH (Nh ⟨a.pre.take b,0,[],[]⟩ (a.pre.getD b 0) M) (rest.getD b 0) ar aq):=Aa (by rw[Jd,<-H,if_neg O,J];simp only;rw[if_neg O,if_neg Θ,if_pos I,aG];rfl);have cF:=Aa I;have cH:=Aa aG;obtain⟨cw,cx,rfl,dj,-⟩:=Hm az _ bd;clear I aG;clear h cc az J a7 s aa ct;have t1:((b:Int)==(a.pre.length:Int))=false:=ζ O;have dm:IntKind.i64.wrap ((b:Int)+1)=(b:Int)+1:=wrap64 _ O O;have t2:((b:Int)==(rest.length:Int))=false:=ζ O;obtain⟨y,z,B,C,P,Q,R⟩:=EN al;clear H;go_enter func103,ntmps103
 go_wp2_with fail
 rw[<-b0.out];clear b0;refine(bV.out ca aB).mono ?_;rintro aw aM⟨rfl,bb⟩;have ce:=τ aB (bb.below ca.heap.size);have S:=al.ξ (bb.below _);have dk:w.heap.size<aM.heap.size:=S.lt;obtain⟨du,cm,cf,bO⟩:=Fz aM 195 [.slice (some (Δ k l)) a.pre.length i,.int .u64 (a.val.toNat:Int),.slice m a.labels.length o,.slice n a.kids.length q];have ao:=Aa ce;have cJ:=Aa S;obtain⟨y,z,B,C,P,Q,R⟩:=EN (S.ξ cf);obtain⟨ac,ad,af,ah,V,W,Y,Z⟩:=CO bO;obtain⟨bo,bp,bq,br,bs,bt,bw⟩:=EN S;rw[cm]at y z B C P Q R ac ad af ah V W Y Z;have ci:w.heap.size≠aM.heap.size:=O;have cj:aM.heap.size≠w.heap.size:=O;clear al aB bb ce S bO cf cm
 go_wp2_with fail
 all_goals(refine(av.out _ (ao.out.alloc ao.out.size _) _ _ (by split<;>first|rfl|omega)).mono ?_)
 all_goals(rintro aw f⟨rfl,bR,bc,be⟩)
 all_goals(have a3:=Aa ((AP.of_below (F:=G) (ao.out.alloc ao.out.size _)).trans be))
 all_goals(have am:=(cJ.out.ξ ((Below.refl _ _).alloc (Ad _) _)).touch be.touch (λj=>Ω (cT.out _ j)))
 all_goals(have bh:=cE.out.moved a3.out)
 all_goals(obtain⟨cL,cS,u,cN,ba⟩:=Hm bh b bi)
 all_goals(injection u with u;injection u with a4 a5;subst a4 a5)
 all_goals(clear y z B C P Q R ac ad af ah V W Y Z bo bp bq br bs bt bw av be ci cj)
 all_goals(have cM:(a.pre.take b).length=b:=by simp;omega)
 all_goals(have cl:Jo f bR (some (Δ k l)) b ((a.pre.take b).map bv):=by have:=bh.take b O;rwa [<-List.map_take]at this)
 all_goals(have dl:w.heap.size<f.heap.size:=am.lt)
 all_goals(have ci:w.heap.size≠f.heap.size:=O)
 all_goals(have cj:f.heap.size≠w.heap.size:=O)
 all_goals(obtain⟨bo,bp,bq,br,bs,bt,bw⟩:=EN am)
 all_goals(obtain⟨wt,K⟩:=ε (f.alloc (.cells #[.slice (some (Δ k l)) b b,.int .u64 0,.slice none 0 0,.slice none 0 0] 195)))
 all_goals(have a0:CQ wt f.heap.size 195 [.slice (some (Δ k l)) b b,.int .u64 0,.slice none 0 0,.slice none 0 0]:=K▸heap_alloc_new _ _)
 all_goals(have aD:η f wt:=K▸(Below.refl _ _).alloc (Ad _) _)
 all_goals(have bE:=am.ξ aD)
 all_goals(obtain⟨y,z,B,C,P,Q,R⟩:=EN bE)
 all_goals(obtain⟨ac,ad,af,ah,V,W,Y,Z⟩:=CO a0)
 all_goals(have cv:=(aD.cell (p:=Δ k (l+b)) cN).trans ba)
 all_goals(rw[K]at y z B C P Q R ac ad af ah V W Y Z cv)
 all_goals(have b1:=Aa (λ(g:World)(e:η f g)=>qI (some (Δ k l)) none none b b 0 0 0 0 ⟨a.pre.take b,0,[],[]⟩ (a.pre.getD b 0) M g O O O (by show Rd g _ _ _;exact(cl.below e).1) Rd.nil Rd.nil cF.out))
 all_goals(have bg:(Nh ⟨a.pre.take b,0,[],[]⟩ (a.pre.getD b 0) M).pre.length<=100/\(Nh ⟨a.pre.take b,0,[],[]⟩ (a.pre.getD b 0) M).labels.length<=100/\(Nh ⟨a.pre.take b,0,[],[]⟩ (a.pre.getD b 0) M).kids.length<=100:=by unfold Nh ins;simp;omega)
 all_goals(generalize Nh ⟨a.pre.take b,0,[],[]⟩ (a.pre.getD b 0) M=t at*)
 all_goals(have a1:=Aa (K▸aD))
 all_goals(have bT:=Aa (K▸a0))
 all_goals(have cC:=Aa bc)
 all_goals(have ap:=Aa bc.lt)
 all_goals(generalize a.pre.getD b 0=dq at*)
 all_goals(generalize a.pre.take b=dr at*)
 all_goals(clear bc am bE a0 aD K cM cl bh ba)
 all_goals(have cQ:(b:Int)<(a.pre.length:Int):=O)
 all_goals(have dn:decide ((b:Int)<(a.pre.length:Int))=true:=decide_eq_true cQ)
 all_goals(go_wp2_with fail)
 all_goals(go_region_with(go_at_call 148;go_loud(refine(b1.out _ (a1.out.trans ((Dr.drew _).below _))).mono ?_;rintro aw ds⟨⟨b2,cn,b3,co,b4,cp,rfl,cq,cr,cs⟩,a9⟩;have bS:=(a1.out.trans ((Dr.drew _).below _)).trans (a9.mono (a1.out.trans ((Dr.drew _).below _)).size);have aR:=bT.out.ξ (((Dr.drew _).below _).trans a9);have bj:=bT.out.lt;have b5:=Fe (base':=f.heap.size+1) cq (by show f.heap.size+1<=(df _).heap.size+2;exact Bi bj (Yp _ 2));have b6:=Fe (base':=f.heap.size+1) cr (by show f.heap.size+1<=(df _).heap.size+2;exact Bi bj (Yp _ 2));have b7:=Fe (base':=f.heap.size+1) cs (by show f.heap.size+1<=(df _).heap.size+2;exact Bi bj (Yp _ 2));clear cq cr cs;obtain⟨cU,cV,cW,cX,cY,c0,c1,c2⟩:=CO aR)))
 all_goals(obtain⟨cK,b8,bN,cb,aL⟩:=Ac7 aR bS (Ad _) (.slice b2 t.pre.length cn) (.int .u64 (t.val.toNat:Int)) (.slice b3 t.labels.length co) (.slice b4 t.kids.length cp))
 all_goals(have a2:=Aa (And.intro (KX b5 aL (Yq _)) (And.intro (KX b6 aL (Yq _)) (KX b7 aL (Yq _)))))
 all_goals(have bx:=Aa cb)
 all_goals(have cD:=Aa bN)
 all_goals(have cI:=Aa b8)
 all_goals(clear b8 cb aL bN b5 b6 b7 aR bS a9 b1 y z B C P Q R ac ad af ah V W Y Z bo bp bq br bs bt bw cv)
 all_goals(go_wp2_with fail)
 all_goals(rw[<-cI.out])
 all_goals(have T:=λ(U:Option Addr)(an:Nat)(db:an=c-(b+1))(a6:U=(if c=b+1 then some ((Δ cw cx):Addr)else some (Δ cw (cx+(b+1)))))=>Vx (rest.length+1) cK bk bR (rest.drop (b+1)) N U an (cC.out.below bx.out) (((bX.out.moved a3.out).below bx.out).rest rfl O cP a6) (by rw[AU];omega) (by rw[AU];omega) (by rw[AU];omega) O)
 all_goals(rw[cH.out,AU]at T)
 all_goals(replace T:=Aa T)
 all_goals(refine(T.out _ _ O (by split<;>first|rfl|omega)).mono ?_)
 all_goals(rintro aw bm⟨rfl,c3,cg,E⟩)
 all_goals(have b9:=Aa (a3.out.trans ((AP.of_below bx.out).trans E)))
 all_goals(have bL:=cD.out.touch E.touch (λj=>Ω (ap.out _ j)))
 all_goals(have cy:=(Jo.KR a2.out.1 (λX cd _ j=>Ω (ap.out X j))).moved E)
 all_goals(have cz:=(Jo.KR a2.out.2.1 (λX cd _ j=>Ω (ap.out X j))).moved E)
 all_goals(have cA:=(Jo.KR a2.out.2.2 (λX cd _ j=>Ω (ap.out X j))).moved E)
 all_goals(obtain⟨cL,cS,u,dg,ba⟩:=Hm (bX.out.moved b9.out) b bd)
 all_goals(injection u with u;injection u with a4 a5;subst a4 a5)
 all_goals(have a8:=λ(g:World)(e:η bm g)=>Td (cg.below e) t b2 b3 b4 cn co cp (rest.getD b 0) ar aq bg.1 bg.2.1 bg.2.2 (cy.below e).1 (cz.below e).1 (cA.below e).1 (by show aH.made.length<=1000;omega))
 all_goals(replace a8:=Aa a8)
 all_goals(generalize rest.getD b 0=bB at*)
 all_goals(clear cg E cy cz cA T cU cV cW cX cY c0 c1 c2)
 all_goals(obtain⟨y,z,B,C,-⟩:=CO bL)
 all_goals(clear bL)
 all_goals(have cR:(b:Int)<(rest.length:Int):=O)
 all_goals(have dp:decide ((b:Int)<(rest.length:Int))=true:=decide_eq_true cR)
 all_goals(go_wp2_with fail)
 all_goals(go_region_with(go_at_call 147;go_loud(refine(a8.out _ ((Dr.drew bm).below _)).mono ?_;rintro aw dt⟨rfl,cB,s,aa⟩)))
 all_goals(have bW:=Aa (And.intro s (b9.out.trans ((AP.of_below ((Dr.drew bm).below _)).trans aa))))
 all_goals(clear s aa)
 all_goals(go_wp2_with fail)
 all_goals(refine bodyPost_ret (v:=.tuple #[.int .u64 ((Gj aH t bB ar aq).2.1.toNat:Int),.int .i64 (Gj aH t bB ar aq).2.2]) (by simp[results,results103,go_sem]) rfl ?_)
 all_goals(rw[cG.out])
 all_goals(exact⟨rfl,cB,bW.out.1,bW.out.2⟩)
end
