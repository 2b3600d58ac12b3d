import Derived.Test.YtfmkofmaabgbkaaGreatDoorJ24
set_option linter.defProp false
set_option maxHeartbeats 32000000
set_option maxRecDepth 100000
open Go.Lib renaming hid->Ac
open List renaming length_append->AP,mem_map->Dk,getElem?_cons_zero->Ag,getElem?_cons_succ->Am,length_zip->Ale,getElem?_map->DJ,getElem?_eq_getElem->Ah,length->fM,nodup_nil->lD,nodup_cons->GN,mem_cons_self->Bo,mem_cons_of_mem->Bz,getD_eq_getElem?_getD->Bg,getElem?_replicate->IC,mem_cons->CG
open Nat renaming le_of_lt->LP,lt_of_le_of_lt->J5,le_trans->Bq,le_refl->Ae,not_lt_zero->lF
open UInt64 renaming toNat_inj->DN,ofNat->Az
open Go.Value renaming slice->fD,int->fP
open Go.Ending renaming returned->gY
open Go.IntKind renaming i64->gZ,u64->ig
open Option renaming some->iC
open Go renaming World->jD,Value->jL
namespace Go.Proofs.YtfmkofmaabgbkaaGreatDoor
open Go.RowKit
open Go.Proofs.Tryz
section
variable{len:Mode}{w w':jD}{base sb mb x d p L:Nat}{s:St}{F:Nat->Prop}
def Afp(h:J6 len w x d p L s F)(_:∀ae,F ae->ae<base){items:List (List UInt8×UInt64)}{e:List Int}{v:jL}(r:Fg w base sb mb x items e v)(f:Nat)(g:UInt64)(ahead:List UInt8)(A:Option Addr)(c:Nat)(an:QA w A ahead)(bi:ahead.length<=c)(bj:ahead.length<=33)(a:Nd)(q:FC s g=iC a)(P:Bf g∉e)(ad:32<(ahead++a.pre).length):
 Calls prog 137 #[ptr0 sb,fP ig (g.toNat:Int),fD A ahead.length c] w (RF (Ei s (f+1) g ahead (items,e)) base sb mb x w):=by
 have aX:Hid (Ei s (f+1) g ahead (items,e)=none):=Ac (by rw[Ei,q];simp only;rw[jM (.inr ad)]);have a8:decide ((32:Int)<((ahead.length+a.pre.length:Nat):Int))=true:=decide_eq_true (by rw[AP]at ad;omega);have Z:=Ac (MQ h g);have aZ:=Ac q;have aa:=Ac r;have bo:IntKind.i64.wrap (g.toNat:Int)=Bf g:=rfl;have bk:=(MR q).1;have aM:=Ac (Wy h q);have Y:=Ac P;have be:=r.box.p1;have av:base<=w.heap.size:=LP (J5 r.bs r.box.lt);have y:Hid (∀aJ∈e.map (λb=>(b,(1:Int))),aJ.1≠Bf g):=Ac (λaJ a6=>by
  obtain⟨b,a5,rfl⟩:=Dk.1 a6;exact λm=>P (m▸a5))
 have W:=Ac an;generalize Bf g=i at*;clear h r q P an;go_enter func137,ntmps137
 go_wp2_with fail
 refine Z.mono ?_;rintro m bd⟨aq,aw⟩;rw[aZ.out]at aw;obtain⟨bq,rfl,a4⟩:=aw;obtain⟨t,N,R,ah,S,al,rfl,Q,aE,aF⟩:=a4;obtain⟨z,ao,k,T⟩:=newB bd 174 [fD t a.pre.length N,fP ig (a.val.toNat:Int),fD R a.labels.length ah,fD S a.kids.length al];have o:η w z:=τ aq k;have l:=aa.below o;have aD:=nH Tryz.NL underlying3 Tryz.nR z mb _ i l.map y.out;have C:=yV Tryz.NL underlying3 z mb _ i 1 l.map y.out;rw[show e.map (λb=>(b,(1:Int)))++[(i,1)]=(e++[i]).map (λb=>(b,(1:Int)))by simp]at C;obtain⟨K,j,I⟩:=l.note aM.out Y.out;obtain⟨B,ap⟩:=ε (Eu z mb (I5 0 ((e++[i]).map λb=>(b,1))).toArray ((e++[i]).map λb=>(b,(1:Int))).length);rw[<-ap]at C K j I;have H:=j.box T;have X:=(W.keep (Ef.of_below o)).keep j;have aW:Hid (YW B w.heap.size (.agg #[fD t a.pre.length N,fP ig (a.val.toNat:Int),fD R a.labels.length ah,fD S a.kids.length al]) a):=Ac (j.nd ⟨_,_,_,_,_,_,rfl,own_below Q k,own_below aE k,own_below aF k⟩);have az:Rd B t a.pre.length (a.pre.map bv):=(CQ (j.own (.inl rfl) (own_below Q k))).2;clear ap;have E:=l.box.cell 0;have G:=l.box.cell 2;simp only[Ag,Am]at E G;rw[ao]at aD C E G;clear be Z ao
 go_wp2_with fail
 obtain⟨a9,ba,bb,bc,-⟩:=CS H;have J:=Ac ((o.mono av).trans I);have ab:=Ac ((Ef.of_below o).trans j);have ac:=Ac K;have u:=Ac X;have aL:=Ac az;have am:=Ac H;clear aD C E G aq k o l j I T H X az Q aE aF K
 go_region_law(refine Lm rfl (.tmp 42) (.tmp 44) 22 rfl Tryz.I4 A ahead.length (ahead.map bv) (by simp[Act.eval]) (by exact u.1) (λa1 m=>by obtain⟨a3,_,_,a2,_⟩:=u.2.1 a1 m;exact⟨a3,a2⟩) (λm=>by rw[u.2.2 m];rfl) t a.pre.length N (a.pre.map bv) (by simp[Act.eval]) (by exact aL.out) (Jk _) O1 U ?_;intro bg bh D bl a7 ar a0)
 have n:η B D:=((Dr.drew B).below _).trans ar;have M:=ac.below n;have V:=am.out.ξ n;have aV:=Ac (ab.trans (Ef.of_below n));have aR:=Ac (J.trans (n.mono (Bq av (by have:=J.size;exact this))));have bp:(Instr.lookup 187 (.map (iC mb)) (fP gZ i) false).run prog D=.ok (fP gZ 1) D:=Tu Tryz.NL underlying3 D mb (e.map λb=>(b,(1:Int))) [] i 1 (by have:=M.map;simpa using this) y.out;obtain⟨E,br,G⟩:=M.box.p3;obtain⟨a9,ba,bb,bc,-⟩:=CS V;clear n ar a0 a7 M V ac u aL am aW ab J W y aa Y;have bm:(32:Int)<(ahead.length:Int)+(a.pre.length:Int):=by simp at a8;omega
 go_wp2_with fail
 go_ret;refine⟨aR.out,aV.out,?_⟩;rw[aX.out];rfl
def Afq(h:J6 len w x d p L s F)(_:∀ao,F ao->ao<base){items:List (List UInt8×UInt64)}{g:List Int}{v:jL}(t:Fg w base sb mb x items g v)(f:Nat)(i:UInt64)(ahead:List UInt8)(A:Option Addr)(c:Nat)(av:QA w A ahead)(bm:ahead.length<=c)(_:ahead.length<=33)(a:Nd)(E:FC s i=iC a)(D:Bf i∉g)(an:¬32<(ahead++a.pre).length)(S:a.val≠0)(R:NS (ahead++a.pre)=false):
 Calls prog 137 #[ptr0 sb,fP ig (i.toNat:Int),fD A ahead.length c] w (RF (Ei s (f+1) i ahead (items,g)) base sb mb x w):=by
 have a5:Hid (Ei s (f+1) i ahead (items,g)=none):=Ac (by rw[Ei,E];simp only;rw[ku (λb=>b.elim (λb=>D (by simpa using b)) an),jM ⟨S,R⟩]);rw[AP]at an;have a3:=Ac R;have br:((a.val.toNat:Int)!=0)=true:=by
  rw[bne_iff_ne];intro b;exact S (DN.1 (by simp;omega))
 clear R S;have ad:=Ac (MQ h i);have a7:=Ac E;have ae:=Ac t;have bp:IntKind.i64.wrap (i.toNat:Int)=Bf i:=rfl;have a0:=Ac (Wy h E);have ac:=Ac D;have bl:=t.box.p1;have aF:base<=w.heap.size:=LP (J5 t.bs t.box.lt);have z:Hid (∀aX∈g.map (λe=>(e,(1:Int))),aX.1≠Bf i):=Ac (λaX be=>by
  obtain⟨e,bd,rfl⟩:=Dk.1 be;exact λb=>D (b▸bd))
 have aa:=Ac av;generalize Bf i=j at*;clear h t E D av;go_enter func137,ntmps137
 go_wp2_with fail
 refine ad.mono ?_;rintro b bk⟨aD,aJ⟩;rw[a7.out]at aJ;obtain⟨bt,rfl,bc⟩:=aJ;obtain⟨u,Q,V,ap,W,aq,rfl,T,aV,aW⟩:=bc;obtain⟨B,aw,l,Y⟩:=newB bk 174 [fD u a.pre.length Q,fP ig (a.val.toNat:Int),fD V a.labels.length ap,fD W a.kids.length aq];have r:η w B:=τ aD l;have n:=ae.below r;have aR:=nH Tryz.NL underlying3 Tryz.nR B mb _ j n.map z.out;have G:=yV Tryz.NL underlying3 B mb _ j 1 n.map z.out;rw[show g.map (λe=>(e,(1:Int)))++[(j,1)]=(g++[j]).map (λe=>(e,(1:Int)))by simp]at G;obtain⟨N,k,K⟩:=n.note a0.out ac.out;obtain⟨C,az⟩:=ε (Eu B mb (I5 0 ((g++[j]).map λe=>(e,1))).toArray ((g++[j]).map λe=>(e,(1:Int))).length);rw[<-az]at G N k K;have J:=k.box Y;have ab:=(aa.keep (Ef.of_below r)).keep k;have a4:Hid (YW C w.heap.size (.agg #[fD u a.pre.length Q,fP ig (a.val.toNat:Int),fD V a.labels.length ap,fD W a.kids.length aq]) a):=Ac (k.nd ⟨_,_,_,_,_,_,rfl,own_below T l,own_below aV l,own_below aW l⟩);have aL:Rd C u a.pre.length (a.pre.map bv):=(CQ (k.own (.inl rfl) (own_below T l))).2;clear az;have H:=n.box.cell 0;have I:=n.box.cell 2;simp only[Ag,Am]at H I;rw[aw]at aR G H I;clear bl ad aw
 go_wp2_with fail
 obtain⟨bg,bh,bi,bj,-⟩:=CS J;have M:=Ac ((r.mono aF).trans K);have ah:=Ac ((Ef.of_below r).trans k);have al:=Ac N;have q:=Ac ab;have aZ:=Ac aL;have ar:=Ac J;clear aR G H I aD l r n k K Y J ab aL T aV aW N
 go_region_law(refine Lm rfl (.tmp 42) (.tmp 44) 22 rfl Tryz.I4 A ahead.length (ahead.map bv) (by simp[Act.eval]) (by exact q.1) (λa8 b=>by obtain⟨bb,_,_,ba,_⟩:=q.2.1 a8 b;exact⟨bb,ba⟩) (λb=>by rw[q.2.2 b];rfl) u a.pre.length Q (a.pre.map bv) (by simp[Act.eval]) (by exact aZ.out) (Jk _) O1 U ?_;intro X a9 o bo aM aE am)
 have m:η C o:=((Dr.drew C).below _).trans aE;have a6:Hid (QA o X (ahead++a.pre)):=Ac (q.cut aM m am);have P:=al.below m;have Z:=ar.out.ξ m;have a2:=Ac (ah.trans (Ef.of_below m));have a1:=Ac (M.trans (m.mono (Bq aF (by have:=M.size;exact this))));have bq:(Instr.lookup 187 (.map (iC mb)) (fP gZ j) false).run prog o=.ok (fP gZ 1) o:=Tu Tryz.NL underlying3 o mb (g.map λe=>(e,(1:Int))) [] j 1 (by have:=P.map;simpa using this) z.out;obtain⟨H,bx,I⟩:=P.box.p3;obtain⟨bg,bh,bi,bj,-⟩:=CS Z;clear m aE am aM P Z al q aZ ar a4 ah M aa z ae ac;have y:=Apm X (ahead.length+a.pre.length) a9 (ahead++a.pre) o O1 (by have:=a6.1;rw[AP]at this;exact this) a3.out;have y:=Ac y
 go_wp2_with fail
 refine y.out.mono ?_;rintro b bw⟨rfl,rfl⟩;clear y
 go_wp2_with fail
 go_ret;refine⟨a1.out,a2.out,?_⟩;rw[a5.out];rfl
end
section
variable{len:Mode}{w w':jD}{base sb mb x d p L:Nat}{s:St}{F:Nat->Prop}
def Aap(h:J6 len w x d p L s F)(hF:∀ct,F ct->ct<base){items:List (List UInt8×UInt64)}{i:List Int}{v:jL}(ad:Fg w base sb mb x items i v)(f:Nat)(j:UInt64)(ahead:List UInt8)(A:Option Addr)(c:Nat)(cy:QA w A ahead)(d2:ahead.length<=c)(_:ahead.length<=33)(a:Nd)(u:FC s j=iC a)(aF:Bf j∉i)(ba:¬32<(ahead++a.pre).length)(bJ:a.val≠0->NS (ahead++a.pre)=true)(dx:x<base)(dv:0<base/\1<base)(cR:∀(l:jD)(aL:UInt64)(ac:List UInt8)(A:Option Addr)(c:Nat)(it:List (List UInt8×UInt64))(mt:List Int)(v:jL),J6 len l x d p L s F->Fg l base sb mb x it mt v->QA l A ac->ac.length<=c->ac.length<=33->34<=f+ac.length->Calls prog 137 #[ptr0 sb,fP ig (aL.toNat:Int),fD A ac.length c] l (RF (Ei s f aL ac (it,mt)) base sb mb x l))(d1:34<=f+1+ahead.length):
 Calls prog 137 #[ptr0 sb,fP ig (j.toNat:Int),fD A ahead.length c] w (RF (Ei s (f+1) j ahead (items,i)) base sb mb x w):=by
 have bx:Hid (a.val=0->Ei s (f+1) j ahead (items,i)=(a.labels.zip a.kids).foldlM (λ(X:List (List UInt8×UInt64)×List Int)(q:UInt8×UInt64)=>Ei s f q.2 (ahead++a.pre++[q.1]) X) (items,i++[Bf j])):=Ac (λg=>by rw[Ei,u];simp only;rw[ku (λb=>b.elim (λb=>aF (by simpa using b)) ba),ku (λb=>b.1 g),ku (λb=>b g)]);have bA:Hid (a.val≠0->Ei s (f+1) j ahead (items,i)=(a.labels.zip a.kids).foldlM (λ(X:List (List UInt8×UInt64)×List Int)(q:UInt8×UInt64)=>Ei s f q.2 (ahead++a.pre++[q.1]) X) (items++[(pairs (ahead++a.pre),a.val)],i++[Bf j])):=Ac (λg=>by rw[Ei,u];simp only;rw[ku (λb=>b.elim (λb=>aF (by simpa using b)) ba),ku (λb=>by rw[bJ g]at b;exact nomatch b.2),jM g]);have c2:=ba;rw[AP]at c2;have ec:¬(32:Int)<(ahead.length:Int)+(a.pre.length:Int):=O1;have eb:decide ((32:Int)<((ahead.length+a.pre.length:Nat):Int))=false:=decide_eq_false O1;have c8:Hid (a.labels.length=a.kids.length):=Ac (by
  obtain⟨_,_,dz,c5⟩:=h.L0;exact((Bh _).1 (Acb dz c5 u).1).2.2.1)
 have c9:=Ac ad.len;have a4:=Ac bJ;clear bJ;have cg:=Ac (MQ h j);have dc:=Ac u;have ci:=Ac ad;have dg:=Ac h;have ee:IntKind.i64.wrap (j.toNat:Int)=Bf j:=rfl;have d5:=(MR u).1;have d4:=(MR u).2.1;have d3:=(MR u).2.2;have c1:=Ac (Wy h u);have cc:=Ac aF;have dS:=ad.box.p1;have S:base<=w.heap.size:=LP (J5 ad.bs ad.box.lt);have a7:Hid (∀cX∈i.map (λn=>(n,(1:Int))),cX.1≠Bf j):=Ac (λcX du=>by
  obtain⟨n,dt,rfl⟩:=Dk.1 du;exact λb=>aF (b▸dt))
 have b9:=Ac cy;generalize Bf j=I at*;clear h ad u aF cy;go_enter func137,ntmps137
 go_wp2_with fail
 refine cg.mono ?_;rintro b bh⟨cA,cI⟩;rw[dc.out]at cI;obtain⟨el,rfl,ds⟩:=cI;obtain⟨aX,bE,b4,av,b5,cv,rfl,bY,cU,cV⟩:=ds;obtain⟨a8,bH,aa,b8⟩:=newB bh 174 [fD aX a.pre.length bE,fP ig (a.val.toNat:Int),fD b4 a.labels.length av,fD b5 a.kids.length cv];have aD:η w a8:=τ cA aa;have ab:=ci.below aD;have cS:=nH Tryz.NL underlying3 Tryz.nR a8 mb _ I ab.map a7.out;have be:=yV Tryz.NL underlying3 a8 mb _ I 1 ab.map a7.out;rw[show i.map (λn=>(n,(1:Int)))++[(I,1)]=(i++[I]).map (λn=>(n,(1:Int)))by simp]at be;obtain⟨bD,Q,bo⟩:=ab.note c1.out cc.out;obtain⟨a9,cz⟩:=ε (Eu a8 mb (I5 0 ((i++[I]).map λn=>(n,1))).toArray ((i++[I]).map λn=>(n,(1:Int))).length);rw[<-cz]at be bD Q bo;have bl:=Q.box b8;have ca:=(b9.keep (Ef.of_below aD)).keep Q;have cd:Hid (YW a9 w.heap.size (.agg #[fD aX a.pre.length bE,fP ig (a.val.toNat:Int),fD b4 a.labels.length av,fD b5 a.kids.length cv]) a):=Ac (Q.nd ⟨_,_,_,_,_,_,rfl,own_below bY aa,own_below cU aa,own_below cV aa⟩);have cJ:Rd a9 aX a.pre.length (a.pre.map bv):=(CQ (Q.own (.inl rfl) (own_below bY aa))).2;clear cz;have D:=ab.box.cell 0;have E:=ab.box.cell 2;simp only[Ag,Am]at D E;rw[bH]at cS be D E;have dU:=Ac bH;clear dS cg bH
 go_wp2_with fail
 obtain⟨y,z,B,C,-⟩:=CS bl;have bp:=Ac ((aD.mono S).trans bo);have co:=Ac ((Ef.of_below aD).trans Q);have cq:=Ac bD;have aq:=Ac ca;have c0:=Ac cJ;have cw:=Ac bl;clear cS be D E cA aa aD ab Q bo b8 bl ca cJ bY cU cV bD
 go_region_law(refine Lm rfl (.tmp 42) (.tmp 44) 22 rfl Tryz.I4 A ahead.length (ahead.map bv) (by simp[Act.eval]) (by exact aq.1) (λar b=>by obtain⟨aw,_,_,t,_⟩:=aq.2.1 ar b;exact⟨aw,t⟩) (λb=>by rw[aq.2.2 b];rfl) aX a.pre.length bE (a.pre.map bv) (by simp[Act.eval]) (by exact c0.out) (Jk _) O1 U ?_;intro aZ dh Y d6 cK cB cr)
 have N:η a9 Y:=((Dr.drew a9).below _).trans cB;have a5:Hid (QA Y aZ (ahead++a.pre)):=Ac (aq.cut cK N cr);have a6:=cq.below N;have bm:=cw.out.ξ N;have bw:=Ac (cd.below N);have bq:=Ac (co.trans (Ef.of_below N));have a3:=Ac (bp.trans (N.mono (Bq S (by have:=bp.size;exact this))));have cT:(Instr.lookup 187 (.map (iC mb)) (fP gZ I) false).run prog Y=.ok (fP gZ 1) Y:=Tu Tryz.NL underlying3 Y mb (i.map λn=>(n,(1:Int))) [] I 1 (by have:=a6.map;simpa using this) a7.out;obtain⟨D,am,E⟩:=a6.box.p3;obtain⟨y,z,B,C,-⟩:=CS bm;have bB:=Ac a6;have bi:=Ac bm;clear N cB cr cK a6 bm cq aq c0 cw cd co bp b9 a7 ci cc;generalize cH:ahead.length+a.pre.length=aM at*;have m:=Ac cH;clear cH;by_cases g:a.val=0
 case' pos=>
  have cf:=Ac (bx g);have dG:((a.val.toNat:Int)!=0)=false:=by rw[g];rfl
  clear g bx bA a4;obtain⟨b3,V⟩:=ε Y;rw[<-V]at bB bq a3 a5 bw bi cT D am E y z B C⊢;clear V;have ck:=bB;have W:=a3;have br:=bq;have ch:=a5;have ce:=bw;have a1:=bi
  go_wp2_with fail
 case' neg=>
  have cf:=Ac (bA g);have a4:=Ac (a4 g);have dG:((a.val.toNat:Int)!=0)=true:=by
   rw[bne_iff_ne];intro b;exact g (DN.1 (by simp;omega))
  clear g bx bA;have bt:=Ac (Alr aZ aM dh (ahead++a.pre) Y (Ω m.out) (by have:=a5.1;rw[AP,m.out]at this;exact this) a4.out);obtain⟨bV,bL⟩:∃bV:ByteArray,bV=⟨(pairs (ahead++a.pre)).toArray⟩:=⟨_,rfl⟩;rw[<-bL]at bt;have c7:=Ac bL;clear bL
  go_wp2_with fail
  refine bt.mono ?_;rintro b aW⟨rfl,P⟩;have r:=bB.below P;have b6:=Ac (bi.out.ξ P);have db:=Ac (a5.keep (Ef.of_below P));have da:=Ac (bw.below P);have c6:=Ac (bq.trans (Ef.of_below P));have cn:=Ac (a3.trans (P.mono (Bq S (by have:=a3.size;exact this))));have cj:=Ac r;have c3:base<=aW.heap.size:=Bq S cn.size;have d7:=r.few;clear D am E y z B C cT bt P;have D:=r.box.cell 0;have am:=r.box.cell 1;have E:=r.box.cell 2;have f1:=r.box.frozen 1;have cM:=r.box.lt;simp only[Ag,Am]at D am E;obtain⟨y,z,B,C,-⟩:=CS b6.out;have cm:Hid (iC sb≠v.ownBlock):=Ac (λb=>r.vs b.symm);clear r
  go_wp2_with fail
  go_region_law(refine Oc rfl (.tmp 72) (.tmp 77) 110 rfl Tryz.Amz aW base v items.length (items.map itV).flatten [.string bV,fP ig (a.val.toNat:Int)] rfl cj.row rfl rfl rfl rfl aW.heap.size 1 rfl rfl rfl U (by intro ek cP;simp at cP;rcases cP with rfl|rfl<;>rfl) O1 U c3 ?_;intro dn H Z cs cp bb cx;have dT:=(World.cell?_of_block (w:=aW) (a:=Δ sb 1) (bb.2 sb cM cm.out)).trans am;have dl:=(World.frozen?_of_block (w:=aW) (a:=Δ sb 1) (bb.2 sb cM cm.out)).trans f1)
  all_goals
   obtain⟨b1,al,b2⟩:=cj.add (pairs (ahead++a.pre),a.val) (by have:=c9.out;simp;omega) (by have:=cs;rw[c7.out]at this;exact this) cp bb cx;obtain⟨b3,V⟩:=ε (Z.setCell (Δ sb 1) (fD (iC (Φ dn)) (items.length+1) H));rw[<-V]at b1 al b2;have ck:=Ac b1;have W:=Ac (cn.trans b2);have br:=Ac (c6.trans al);have ch:=Ac (db.keep al);have ce:=Ac (al.nd da.out);have a1:=Ac (al.box b6.out);have de:=Ac V;clear y z B C;obtain⟨y,z,B,C,-⟩:=CS a1.out;rw[V]at y z B C;clear b1 al b2 V
   go_wp2_with fail
   rw[<-de.out];clear cs cp bb cx dT dl D am E f1
 all_goals(
  go_loopw [84](λbR wr=>∃(e:Nat)(it:List (List UInt8×UInt64))(mt:List Int)(bg:jL),e<=a.kids.length/\bR=fP gZ (e:Nat)/\Fg wr base sb mb x it mt bg/\Ef b3 wr/\Below base b3 wr/\((a.labels.zip a.kids).drop e).foldlM (λ(X:List (List UInt8×UInt64)×List Int)(q:UInt8×UInt64)=>Ei s f q.2 (ahead++a.pre++[q.1]) X) (it,mt)=Ei s (f+1) j ahead (items,i))(λbR _=>a.kids.length-(intOf bR).toNat)
  case atStart=>exact⟨0,_,_,_,Nat.zero_le _,rfl,ck.out,Ef.refl _,Below.refl _ _,by rw[cf.out];rfl⟩
  case round=>
   obtain⟨e,it,mt,bg,d8,rfl,cN,cG,cC,cE⟩:=hrel;have cl:=Ac cN;have M:=Ac cG;have K:=Ac cC;have cb:=Ac cE;clear cN cG cC cE y z B C;by_cases bO:e<a.kids.length
   ·have bd:e<a.labels.length:=by rw[c8.out];exact bO
    have cQ:e<(a.labels.zip a.kids).length:=by rw[Ale];omega
    have cD:(a.labels.zip a.kids).drop e=(a.labels[e],a.kids[e])::(a.labels.zip a.kids).drop (e+1):=by
     rw[List.drop_eq_getElem_cons cQ,List.getElem_zip]
    have bj:=cb.out;rw[cD,List.foldlM_cons]at bj;obtain⟨_,_,_,_,_,_,bG,dD,b0,cW⟩:=M.nd ce.out;simp only[Value.agg.injEq]at bG;simp at bG;obtain⟨⟨rfl,rfl⟩,⟨rfl,rfl⟩,⟨rfl,rfl⟩⟩:=bG;obtain⟨eh,ei,rfl,d9,cF⟩:=(CQ cW).2.2 O1;obtain⟨ae,ah,rfl,ea,bN⟩:=(CQ b0).2.2 O1;have bk:=cF e bO;rw[DJ,Ah bO]at bk;replace bk:_=iC (Value.int ig (a.kids[e].toNat:Int)):=bk;have a2:=bN e bd;rw[DJ,Ah bd]at a2;replace a2:_=iC (Value.int .u8 (a.labels[e].toNat:Int)):=a2;generalize a.kids[e]=aL at*;generalize a.labels[e]=o at*;have b7:=Ac bj;obtain⟨y,z,B,C,-⟩:=CS (M.box a1.out);have J:=Ac (ch.out.keep M.out);have a0:Hid (∀l,Ef wr l->l.cell? (Δ bh.heap.size 2)=iC (fD (iC (Δ ae ah)) a.labels.length av)/\l.cell? (Δ ae (ah+e))=iC (fP .u8 (o.toNat:Int))):=Ac (λl az=>by
     refine⟨(CS (az.box (M.box a1.out))).2.2.1,?_⟩;obtain⟨d0,ej,t,_,dp⟩:=(CQ (az.own (.inl rfl) b0)).2.2 O1;injection t with t
     injection t with dj dk
     subst dj dk;rw[dp e bd,<-bN e bd];exact a2)
    have ao:=Ac (λ(l:jD)(az:η wr l)(G:Option Addr)(H:Nat)(R:QA l G (ahead++a.pre++[o]))(bc:aM+1<=H)=>cR l aL (ahead++a.pre++[o]) G H it mt bg (dg.past ((W.out.trans K.out).trans (az.mono (Bq S (Bq W.out.size K.size)))) hF dx dv) (cl.below az) R (by have:=m.out;simp;omega) (by simp at ba⊢;omega) (by simp;omega));rw[show(ahead++a.pre++[o]).length=aM+1 by have:=m.out;simp;omega]at ao;have ef:(e:Int)<(a.kids.length:Int):=O1;have eg:(e:Int)<(a.labels.length:Int):=O1;have ed:IntKind.i64.wrap ((e:Int)+1)=(e:Int)+1:=wrap64 _ O1 O1;clear cF bN dD b0 cW cD cQ bj
    go_wp2_with fail
    cases g:Ei s f aL (ahead++a.pre++[o]) (it,mt)with
    |none=>
     have bC:Hid (Ei s (f+1) j ahead (items,i)=none):=Ac (by rw[<-b7.out];simp only[g];rfl);rw[g]at ao;clear g
     go_region_held_law(λw'=>w'.cell? (Δ bh.heap.size 2)=iC (fD (iC (Δ ae ah)) a.labels.length av)/\w'.cell? (Δ ae (ah+e))=iC (fP .u8 (o.toNat:Int)))(first|go_keep|exact a0 _ ((Ef.of_below k).trans T)|exact a0 _ (Ef.of_below k))
      (first
      |(refine UL rfl (.tmp 96) (.tmp 102) 22 rfl Tryz.I4 wr aZ aM ((ahead++a.pre).map bv) (by simp[Act.eval]) (by have:=J.1;rw[AP,m.out]at this;exact this) (λar b=>by obtain⟨aw,_,_,t,_⟩:=J.2.1 ar b;exact⟨aw,t⟩) (λb=>by have:=congrArg fM (J.2.2 b);rw[AP,m.out]at this;exact this) (fP .u8 (o.toNat:Int)) rfl rfl rfl rfl wr.heap.size 1 (by simp[Act.eval]) rfl rfl (Ω m.out) U ?_;intro G H Z bc R k aR;have aV:QA Z G (ahead++a.pre++[o]):=J.cut (by rw[AP,m.out];exact R) k aR)
      |(go_at_call 137;refine(ao Z k G H aV bc).mono ?_;rintro b cY⟨aE,T,aJ⟩;replace aJ:b=gY (fP gZ 5):=aJ;subst aJ))
     all_goals(have an:=Ac ((W.out.trans K.out).trans ((k.mono (Bq S (Bq W.out.size K.size))).trans aE)))
     all_goals(have ap:=Ac (((br.out.trans M.out).trans (Ef.of_below k)).trans T))
     all_goals(clear k aE T R aR aV)
     all_goals(go_wp2_with fail)
     all_goals(go_ret)
     all_goals(refine⟨an.out,ap.out,?_⟩)
     all_goals(rw[bC.out])
     all_goals rfl
    |some dy=>
     obtain⟨bS,bX⟩:=dy;have c4:Hid (((a.labels.zip a.kids).drop (e+1)).foldlM (λ(X:List (List UInt8×UInt64)×List Int)(q:UInt8×UInt64)=>Ei s f q.2 (ahead++a.pre++[q.1]) X) (bS,bX)=Ei s (f+1) j ahead (items,i)):=Ac (by rw[<-b7.out];simp only[g];rfl);rw[g]at ao;clear g
     go_region_held_law(λw'=>w'.cell? (Δ bh.heap.size 2)=iC (fD (iC (Δ ae ah)) a.labels.length av)/\w'.cell? (Δ ae (ah+e))=iC (fP .u8 (o.toNat:Int)))(first|go_keep|exact a0 _ ((Ef.of_below k).trans T)|exact a0 _ (Ef.of_below k))
      (first
      |(refine UL rfl (.tmp 96) (.tmp 102) 22 rfl Tryz.I4 wr aZ aM ((ahead++a.pre).map bv) (by simp[Act.eval]) (by have:=J.1;rw[AP,m.out]at this;exact this) (λar b=>by obtain⟨aw,_,_,t,_⟩:=J.2.1 ar b;exact⟨aw,t⟩) (λb=>by have:=congrArg fM (J.2.2 b);rw[AP,m.out]at this;exact this) (fP .u8 (o.toNat:Int)) rfl rfl rfl rfl wr.heap.size 1 (by simp[Act.eval]) rfl rfl (Ω m.out) U ?_;intro G H Z bc R k aR;have aV:QA Z G (ahead++a.pre++[o]):=J.cut (by rw[AP,m.out];exact R) k aR)
      |(go_at_call 137;refine(ao Z k G H aV bc).mono ?_;rintro b cY⟨aE,T,aJ⟩;obtain⟨dq,dO,cL⟩:=(aJ:b=gY (fP gZ 0)/\∃dL,Fg cY base sb mb x bS bX dL);subst dq))
     all_goals(have an:=Ac (K.trans ((k.mono (Bq S (Bq W.out.size K.size))).trans aE)))
     all_goals(have ap:=Ac ((M.trans (Ef.of_below k)).trans T))
     all_goals(have dd:=Ac cL)
     all_goals(clear k aE T R aR aV cL)
     all_goals(go_wp2_with fail)
     all_goals(go_roundw)
     all_goals first
      |(case rel=>exact⟨e+1,bS,bX,dO,O1,by go_num,dd.out,ap.out,an.out,c4.out⟩)
      |(case measure=>simp[intOf];omega)
   ·have dr:e=a.kids.length:=O1;have bC:Hid (Ei s (f+1) j ahead (items,i)=iC (it,mt)):=Ac (by
     rw[<-cb.out,List.drop_of_length_le (by rw[Ale];omega)];rfl)
    have an:=Ac (W.out.trans K.out);have ap:=Ac (br.out.trans M.out);subst dr;clear cR
    go_wp2_with fail
    go_ret;refine⟨an.out,ap.out,?_⟩;rw[bC.out];exact⟨rfl,bg,cl.out⟩)
end
def kJ{len:Mode}{base sb mb x d p L:Nat}{s:St}{F:Nat->Prop}(hF:∀y,F y->y<base)(B:x<base)(z:0<base/\1<base):∀(f:Nat)(w:jD)(a:UInt64)(ahead:List UInt8)(A:Option Addr)(c:Nat)(items:List (List UInt8×UInt64))(l:List Int)(v:jL),J6 len w x d p L s F->Fg w base sb mb x items l v->QA w A ahead->ahead.length<=c->ahead.length<=33->34<=f+ahead.length->
 Calls prog 137 #[ptr0 sb,fP ig (a.toNat:Int),fD A ahead.length c] w (RF (Ei s f a ahead (items,l)) base sb mb x w)
 |0,w,a,ahead,A,c,items,l,v,h,e,g,i,j,t=>absurd t O1
 |f+1,w,a,ahead,A,c,items,l,v,h,e,g,i,j,t=>by
  cases k:FC s a with
  |none=>exact zQ h hF e f a ahead A c k
  |some b=>
   by_cases m:Bf a∈l
   ·exact Aex h hF e f a ahead A c g i j b k m
   ·by_cases o:32<(ahead++b.pre).length
    ·exact Afp h hF e f a ahead A c g i j b k m o
    ·have J:=λ(n:jD)(K:UInt64)(D:List UInt8)(A:Option Addr)(c:Nat)(C:List (List UInt8×UInt64))(mt:List Int)(v:jL)(q:J6 len n x d p L s F)(r:Fg n base sb mb x C mt v)E G H I=>kJ hF B z f n K D A c C mt v q r E G H I
     by_cases u:b.val≠0/\NS (ahead++b.pre)=false
     ·exact Afq h hF e f a ahead A c g i j b k m o u.1 u.2
     ·exact Aap h hF e f a ahead A c g i j b k m o (λq=>(Bool.eq_false_or_eq_true _).resolve_right λr=>u ⟨q,r⟩) B z J t
def Anu(w:jD)(base:Nat)(v:jL)(items:List (List UInt8×UInt64)):Prop:=w.ownsRow base 115 2 v items.length (items.map itV).flatten
def Aj0(s:St)(w:jD)(x:Nat)(e:Ending)(w':jD):Prop:=
 η w w'/\match DW s with
  |none=>e=gY (.tuple #[.pointer none,fP gZ 5])
  |some (items,a)=>∃sb mb b,e=gY (.tuple #[ptr0 sb,fP gZ 0])/\Fg w' w.heap.size sb mb x items a b
section
variable{len:Mode}{w w':jD}{x d p L:Nat}{s:St}{F:Nat->Prop}
def WT(h:J6 len w x d p L s F):Calls prog 89 #[ptr0 x] w (Aj0 s w x):=by
 have j:=Ac (Ih h ⟨#[]⟩ U);rw[ku U]at j;have S:=h.box.lt;have X:=h.sys.lt;have R:=h.sys.tabs.lt;have J:=Ac h;have Y:=λM=>run_makeMap (P:=prog) 187 M
 obtain⟨E,i⟩:=ε ((w.alloc (.map #[] 0)).alloc (.cells #[ptr0 x,fD none 0 0,.map (iC w.heap.size)] 189));have o:η w E:=by
  have A:η w (w.alloc (.map #[] 0)):=(Below.refl _ _).alloc (Ae _) _;rw[i];exact A.alloc A.size _
 have t:Fg E w.heap.size (w.heap.size+1) w.heap.size x [] [] (fD none 0 0):=by
  refine⟨i▸Ach w _ _ _,World.ownsRow_nil _ _ _ _,?_,O1,Ae _,(λa=>nomatch a),lD,(λZ Q=>nomatch Q),Ae _⟩;rw[i];exact(χ _ _ Θ).trans (heap_alloc_new _ _)
 have y:=Ac t;have v:=Ac o;have n:=Ac (bf (h.below o));have z:=Ac i;by_cases f:s.ws 9=0
 ·have e:Hid (DW s=iC ([],[])):=Ac (by unfold DW;rw[jM f]);have t0:(((s.ws 9).toNat:Int)!=0)=false:=by rw[f];rfl
  clear h t o i f;go_enter func89,ntmps89
  go_wp2_with fail
  refine j.mono ?_;rintro a W⟨rfl,rfl⟩;clear j
  go_wp2_with fail
  rw[<-z.out];refine n.mono ?_;rintro a G⟨rfl,c⟩;have k:=Ac (τ v.out c);have K:=Ac (y.below c);clear c n
  go_wp2_with fail
  go_ret2;refine⟨k.out,?_⟩;rw[e.out];exact⟨_,_,_,rfl,K.out⟩
 ·have e:Hid (DW s=Ei s 34 (s.ws 9) [] ([],[])):=Ac (by unfold DW;rw[ku f]);have t0:(((s.ws 9).toNat:Int)!=0)=true:=by
   rw[bne_iff_ne];intro a;exact f (DN.1 (by simp;omega))
  clear h t o i f;go_enter func89,ntmps89
  go_wp2_with fail
  refine j.mono ?_;rintro a W⟨rfl,rfl⟩;clear j
  go_wp2_with fail
  rw[<-z.out];refine n.mono ?_;rintro a G⟨rfl,c⟩;have k:=Ac (τ v.out c);have b:=Ac (kJ X S R 34 G (s.ws 9) [] none 0 [] [] _ (J.below k.out) (y.below c) (QA.nil _) (Ae _) U U);clear c n;simp only[List.length_nil]at b;cases g:Ei s 34 (s.ws 9) [] ([],[])with
  |none=>
   have r:Hid (DW s=none):=Ac (by rw[e.out,g]);rw[g]at b;clear g e
   go_wp2_with fail
   refine b.mono ?_;rintro a H⟨l,u,m⟩;replace m:a=gY (fP gZ 5):=m;subst m;have q:=Ac (k.trans l);clear l u b
   go_wp2_with fail
   go_ret2;refine⟨q.out,?_⟩;rw[r.out];rfl
  |some T=>
   obtain⟨C,D⟩:=T;have r:Hid (DW s=iC (C,D)):=Ac (by rw[e.out,g]);rw[g]at b;clear g e
   go_wp2_with fail
   refine b.mono ?_;rintro a H⟨l,u,m⟩;obtain⟨N,aa,B⟩:=(m:a=gY (fP gZ 0)/\∃V,Fg H w.heap.size (w.heap.size+1) w.heap.size x C D V);subst N;have q:=Ac (k.trans l);have I:=Ac B;clear l u b B
   go_wp2_with fail
   go_ret2;refine⟨q.out,?_⟩;rw[r.out];exact⟨_,_,_,rfl,I.out⟩
def Anv(s:St)(w:jD)(e:Ending)(w':jD):Prop:=
 η w w'/\match DW s with
  |none=>e=gY (.tuple #[fD none 0 0,fP gZ 5])
  |some (items,_)=>∃a,e=gY (.tuple #[a,fP gZ 0])/\Anu w' w.heap.size a items/\items.length<=65537
def Ur(h:J6 len w x d p L s F):Calls prog 48 #[ptr0 x] w (Anv s w):=by
 have e:=Ac (WT h);cases g:DW s with
 |none=>
  have b:=Ac g;clear h g;go_enter func48,ntmps48
  go_wp2_with fail
  refine e.mono ?_;rintro j o⟨c,a⟩;rw[b.out]at a;replace a:j=gY (.tuple #[.pointer none,fP gZ 5]):=a;subst a;have i:=Ac c;clear c e
  go_wp2_with fail
  go_ret2;refine⟨i.out,?_⟩;rw[b.out];rfl
 |some m=>
  obtain⟨r,t⟩:=m;have b:=Ac g;clear h g;go_enter func48,ntmps48
  go_wp2_with fail
  refine e.mono ?_;rintro j o⟨c,a⟩;rw[b.out]at a;obtain⟨sb,mb,n,rfl,f⟩:=a;have q:=f.box.cell 1;simp only[Am,Ag]at q;have i:=Ac c;have l:=Ac f.row;have k:=Ac f.few;clear c e f
  go_wp2_with fail
  go_ret2;refine⟨i.out,?_⟩;rw[b.out];exact⟨n,rfl,l.out,k.out⟩
end
def kK{w:jD}{base base' k n:Nat}{e:TypeId}{v:jL}{xs:List jL}(h:w.ownsRow base e k v n xs)(i:base'<=base):w.ownsRow base' e k v n xs:=
 ⟨h.1,h.2.imp id (λ⟨c,a,b,d,f,g⟩=>⟨c,a,b,d,Bq i f,g⟩)⟩
section
variable{w w':jD}{x d p L:Nat}{s:St}{F:Nat->Prop}
end
def Qe{g:Type} [DecidableEq g]:∀(c a:List g),c.Nodup->(∀x∈c,x∈a)->c.length<=a.length
 |[],_,_,_=>by simp
 |b::n,a,l,e=>by
  obtain⟨j,k⟩:=GN.1 l;have d:=e b (Bo ..);have m:=Qe n (a.erase b) k (λx f=>(List.mem_erase_of_ne (λi:x=b=>j (by rw[<-i];exact f))).2 (e x (Bz _ f)));rw[List.length_erase_of_mem d]at m;have:=List.length_pos_of_mem d;rw[List.length_cons];omega
section
variable{X:Nat->Prop}{L:Nat}{s:St}{items:List Kv}
def Jj.up(h:Jj X L s items):UpK items:=by
 rcases h.tree with⟨_,b,_⟩|⟨_,_,a,_⟩
 ·rw[b];exact List.Pairwise.nil
 ·exact a.up h.ok
def Aq6{sh:Sh}(j:L<=1024)(n:shapeOf L=iC sh):Axc L (st0 sh) []:=by
 have m:=IK n;have e:∀a,GZ (st0 sh) a=0:=λa=>by
  unfold GZ st0;simp only[Bg,IC];split<;>rfl
 have g:∀a,hdN (st0 sh) a=0:=λa=>by
  unfold hdN st0;simp only[Bg,IC];split<;>rfl
 have i:∀a,8<=a->(st0 sh).ws a=0:=λa o=>by
  show BX (λ_=>0) 0 (wordsOf sh) a=0;unfold BX;rw[ku];simp[wordsOf,headW];omega
 have l:∀c d,¬AU (st0 sh) c d:=λc d=>by
  rintro⟨a,f,_,b,_⟩;rw[e,Gg]at b;cases b
 refine⟨⟨m,j,by simp[st0],by simp[st0],λa _=>.inl (e a),λa _=>.inl (g a),λa _=>.inl (e a),λa f _ b=>?_,λa _=>?_⟩,λc d=>?_,.inl ⟨i 9 U,rfl,λc=>⟨λ⟨d,k⟩=>l c d k,λh=>h.elim⟩⟩,λ_ h=>by cases h⟩
 ·rw[e,Gg]at b;cases b
 ·rw[i _ O1];show _=(List.replicate sh.BO (0:UInt64)).getD a 0;simp only[Bg,IC];split<;>rfl
 ·rintro⟨a,f,_,b,_⟩;rw[g,Gg]at b;cases b
end
inductive Dj(s:St):UInt64->List Lk->Prop
 |nil:Dj s 0 []
 |cons(o:Nat)(r:Rc)(l:List Lk):AU s o 1->DZ r=true->wordsAt s.ws (o/8) 8=Ee r->Dj s r.next l->(∀k∈l,k.rc.stamp.toNat<r.stamp.toNat)->Dj s (Az o) (⟨o,r⟩::l)
def CX(l:List Lk):List Nat:=l.map (·.off.toNat)
section
variable{L:Nat}{s s':St}
def vI{v:UInt64}{l:List Lk}(h:Dj s v l)(a:v≠0):l≠[]:=by
 cases h with
 |nil=>exact absurd rfl a
 |cons=>simp
def Dj.taken{v:UInt64}{l:List Lk}(h:Dj s v l):∀o∈CX l,AU s o 1:=by
 induction h with
 |nil=>intro o b;cases b
 |cons o r l c _ _ _ _ d=>
  intro p a;unfold CX at a;rw[List.map_cons,CG]at a;rcases a with rfl|a
  ·exact c
  ·exact d p a
def Dj.keep{v:UInt64}{l:List Lk}(h:Dj s v l){B:Nat->Prop}(k:D6 s s' B)(a:∀o∈CX l,B o):Dj s' v l:=by
 induction h with
 |nil=>exact .nil
 |cons o r l i f j _ g m=>
  obtain⟨b,d⟩:=k o 1 (a o (Bo ..)) i;refine .cons o r l b f ?_ (m (λp e=>a p (Bz _ e))) g;have:=RX (o:=o) (c:=1) d;rw[show 8*Bd 1=8 from rfl]at this;rw[this,j]
def Dj.nodup{v:UInt64}{l:List Lk}(h:Dj s v l):(CX l).Nodup/\∀k∈l,wordsAt s.ws (k.off.toNat/8) 8=Ee k.rc/\DZ k.rc=true:=by
 induction h with
 |nil=>exact⟨lD,λ_ h=>nomatch h⟩
 |cons o r l p c d _ n b=>
  refine⟨GN.2 ⟨λm=>?_,b.1⟩,λk a=>?_⟩
  ·obtain⟨k,a,e⟩:=Dk.1 m;obtain⟨i,j⟩:=b.2 k a;have f:Ee k.rc=Ee r:=by
    rw[<-i,<-d];have:k.off.toNat=o:=e;rw[this]
   have g:k.rc=r:=by rw[<-Vb k.rc j,f,Vb r c]
   have:=n k a;rw[g]at this;omega
  ·rcases CG.1 a with rfl|a
   ·exact⟨d,c⟩
   ·exact b.2 k a
def Dj.list(c:BG L s){v:UInt64}{l:List Lk}(h:Dj s v l):∀(f:Nat)(a:List Lk),l.length<f->(∀k∈l,k.rc.stamp.toNat<ES a)->Vd s f v a=iC (a++l):=by
 induction h with
 |nil=>
  intro f a b _;cases f with
  |zero=>exact absurd b (lF _)
  |succ f=>unfold Vd;rw[jM U,List.append_nil]
 |cons o r l d i n _ j p=>
  intro f a b m;have w:=d.bounds c;have q:=c.sh.OI;have t:=c.L1;cases f with
  |zero=>exact absurd b (lF _)
  |succ f=>
   unfold Vd;rw[ku (by rw[Dy O1];omega),Jv O1,d.class c,ku Θ,Int.toNat_natCast,n,Ado r i];simp only;have u:r.stamp.toNat<ES a:=m _ (Bo ..);have e:=p f (a++([⟨(o:Int),r⟩]:List Lk)) (by simpa using b) (λk g=>by
    have:=j k g;unfold ES;rw[List.getLast?_append,List.getLast?_singleton,Option.some_or];exact this)
   rw[ku O1,e,List.append_assoc];rfl
end
section
variable{X:Nat->Prop}{L:Nat}{s:St}{items:List Kv}
def Jj.congr{a:Nat->Prop}(h:Jj X L s items)(e:∀o,X o<->a o):Jj a L s items:=by
 have:X=a:=funext λo=>propext (e o)
 exact this▸h
def Aj1(h:Jj X L s items)(r:Rc)(am:DZ r=true):
 MG s r=(s,0,6)\/∃l a,MG s r=(l,Az a,0)/\(∀b e,DT s 1=iC (b,e)->(Lj {e with ws:=BX e.ws (b/8) (Ee r)} b).2=0)/\¬(∃d,AU s a d)/\¬X a/\a<=65536/\0<a/\AU l a 1/\wordsAt l.ws (a/8) 8=Ee r/\
  Jj (λp=>X p\/p=a) L l items/\D6 s l (λ_=>True)/\l.sh=s.sh/\∀f,f<16->l.ws f=s.ws f:=by
 unfold MG;rw[ku (by rw[am];simp)];cases an:DT s 1 with
 |none=>exact .inl rfl
 |some p=>
  obtain⟨b,e⟩:=p;right;obtain⟨G,R,ar,av,K,_,ah,aq⟩:=OZ h.ok (.inl rfl) an;have J:=K.bounds G;have aE:=G.sh.OI;have aw:=h.ok.L1;have N:=Iz r;have az:Bd 1=1:=rfl;have E:∀c,¬Hw b 1 c->BX e.ws (b/8) (Ee r) c=e.ws c:=λc n=>by
   unfold BX;rw[ku];intro h;exact n ⟨h.1,by rw[N]at h;omega⟩
  have P:∀c,c<16+e.sh.BO->¬Hw b 1 c:=λc n h=>by
   unfold Hw at h;omega
  obtain⟨o,j⟩:∃o,o=({e with ws:=BX e.ws (b/8) (Ee r)}:St):=⟨_,rfl⟩;have m:BG L o:=j▸G.words (λc n=>E _ (P _ O1));have z:Ej o b 1:=by rw[j];exact K
  obtain⟨y,C,S,ao,F,u,W⟩:=oC m z;have V:o.sh=e.sh:=by rw[j]
  have x:∀a d,AU o a d<->AU s a d:=λa d=>by rw[j];exact aq a d
  have M:D6 s y (λ_=>True):=λa H _ ap=>by
   have A:=(x a H).2 ap;obtain⟨aD,ad⟩:=OY m z A;have T:=A.bounds m;refine⟨(u a H).2 (.inl A),λc n=>?_⟩;rw[F c (.inr (m.D5 T.1 n)),j];show BX e.ws (b/8) (Ee r) c=_;rw[E c (λh=>PM ad J.2.2 T.2.2 h n),R]
  have D:¬∃d,AU s b d:=λ⟨d,q⟩=>(OY m z ((x b d).2 q)).1 rfl
  have w:∀f,f<16->y.ws f=s.ws f:=λf al=>by
   rw[F f (.inl al),j];show BX e.ws (b/8) (Ee r) f=_;rw[E f (P f O1),R]
  have Q:∀a,(∃d,AU y a d)<->(∃d,AU s a d)\/a=b:=λa=>by
   constructor
   ·rintro⟨d,q⟩;rcases(u a d).1 q with g|⟨g,_⟩
    ·exact .inl ⟨d,(x a d).1 g⟩
    ·exact .inr g
   ·rintro(⟨d,q⟩|rfl)
    ·exact⟨d,(u a d).2 (.inl ((x a d).2 q))⟩
    ·exact⟨1,(u _ _).2 (.inr ⟨rfl,rfl⟩)⟩
  have ac:∀a,X a->∃d,AU s a d:=λa t=>by
   rcases h.tree with⟨_,_,i⟩|⟨_,_,_,_,_,i⟩
   ·exact(i a).2 t
   ·exact(i a).2 (.inr t)
  rw[j]at C;refine⟨y,b,by simp only[C,if_true],λaF t2 B=>?_,D,λv=>D (ac b v),O1,O1,(u _ _).2 (.inr ⟨rfl,rfl⟩),?_,⟨S,λa d ae=>?_,?_,h.even⟩,M,by rw[ao,V,ar],w⟩
  ·injection B with B
   injection B with Z aa
   subst Z;subst aa;rw[C]
  ·refine List.ext_getElem (by simp[wordsAt,N]) λc g k=>?_
   rw[KX,F _ (.inr (m.D5 (by rw[V];exact J.1) (c:=1) ⟨O1,O1⟩)),j];show BX e.ws (b/8) (Ee r) (b/8+c)=_;unfold BX;rw[jM ⟨O1,O1⟩,Nat.add_sub_cancel_left,Bg,Ah k];rfl
  ·obtain⟨g,k⟩:=(W a d).1 ae;rw[j]at g;rcases ah a d g with i|i
   ·exact h.nh a d i
   ·exact k i
  ·rcases h.tree with⟨g,k,i⟩|⟨Y,g,k,i,ab,I⟩
   ·exact .inl ⟨by rw[w 9 U,g],k,λa=>by rw[Q a,i a]⟩
   ·refine .inr ⟨Y,by rw[w 9 U];exact g,by rw[w 9 U];exact k.keep h.ok S M (λ_ _=>trivial),i,λa t v=>?_,λa=>by rw[Q a,I a,or_assoc]⟩;rcases v with v|rfl
    ·exact ab a t v
    ·exact D ((I _).2 (.inl t))
def oI(h:Jj X L s items){o:Nat}(n:X o):∃a,FM s o=(a,0)/\Jj (λp=>X p/\p≠o) L a items/\D6 s a (λp=>p≠o)/\a.sh=s.sh/\∀f,f<16->a.ws f=s.ws f:=by
 have D:∃d,AU s o d:=by
  rcases h.tree with⟨_,_,e⟩|⟨_,_,_,_,_,e⟩
  ·exact(e o).2 n
  ·exact(e o).2 (.inr n)
 obtain⟨I,G⟩:=D;obtain⟨a,B,y,z,E,g,q⟩:=Zp h.ok G;have u:D6 s a (λp=>p≠o):=λp d j w=>⟨(q p d).2 ⟨w,j⟩,λf m=>g f (.inr (h.ok.D5 (w.bounds h.ok).1 m))⟩
 have x:∀p,(∃d,AU a p d)<->(∃d,AU s p d)/\p≠o:=λp=>by
  constructor
  ·rintro⟨d,l⟩;obtain⟨i,c⟩:=(q p d).1 l;exact⟨⟨d,i⟩,c⟩
  ·rintro⟨⟨d,l⟩,c⟩;exact⟨d,(q p d).2 ⟨l,c⟩⟩
 refine⟨a,B,⟨y,λp d F=>h.nh p d ((O8 E z p d).1 F),?_,h.even⟩,u,z,λf m=>g f (.inl m)⟩;rcases h.tree with⟨i,c,e⟩|⟨r,i,c,e,t,C⟩
 ·exact .inl ⟨by rw[g 9 (.inl U),i],c,λp=>by rw[x p,e p]⟩
 ·have v:∀p∈r,p≠o:=λp j A=>t p j (A▸n)
  refine .inr ⟨r,by rw[g 9 (.inl U)];exact i,by rw[g 9 (.inl U)];exact c.keep h.ok y u v,e,λp j H=>t p j H.1,λp=>?_⟩;rw[x p,C p];constructor
  ·rintro⟨b|b,k⟩
   ·exact .inl b
   ·exact .inr ⟨b,k⟩
  ·rintro(b|⟨b,k⟩)
   ·exact⟨.inl b,v p b⟩
   ·exact⟨.inr b,k⟩
end
