import Derived.Test.YtfmkofmaabgbkaaGreatDoorJ36
set_option linter.defProp false
set_option maxHeartbeats 32000000
set_option maxRecDepth 100000
open Nat renaming lt_of_lt_of_le->Be,zero_le->BA,le_refl->Ae,le_trans->Bq
open Go.Lib renaming hid->Ac
open List renaming getElem_mem->Cm,drop_eq_getElem_cons->Cf,drop_of_length_le->DR,getElem?_cons_zero->Ag,getElem?_cons_succ->Am,cons_append->BD,map_cons->BM,nodup_cons->GN,mem_map->Dk,mem_append->AB,mem_append_left->BH,mem_singleton->BQ,mem_append_right->Bj,mem_cons_self->Bo,mem_cons_of_mem->Bz,map_drop->Oo,getElem?_eq_getElem->Ah,range->Ep,mem_range->GK,length_range->Agy,length_map->CZ,pairwise_iff_forall_sublist->Xl,concat_eq_append->xk,length_append->AP,length_cons->Bv,size_toArray->Agz
open Int renaming ofNat->Gt
open Go.World renaming ownsRow_nil->CP
open Go.Value renaming ownBlock->AV
open Go.Value renaming slice->fD,int->fP,string->fQ,tuple->gJ
open Go.Ending renaming returned->gY
open Go.IntKind renaming i64->gZ,u64->ig
open Option renaming some->iC,none->iD
open Bool renaming false->jw
open Go renaming World->jD,Value->jL
namespace Go.Proofs.YtfmkofmaabgbkaaGreatDoor
open Go.RowKit
open Go.Proofs.Tryz
def Ik(q:Ms)(low:UInt64)(it:List UInt8×UInt64):Ms×Int×Int:=
 match IE q.s it.2 with
 |none=>(q,0,5)
 |some a=>if 0<LY a low.toNat then((N9 q a (LY a low.toNat)).1,(a.length:Int) -(LY a low.toNat:Nat),(N9 q a (LY a low.toNat)).2)else
  if(GX q it.1).2.2≠0 then((GX q it.1).1,0,(GX q it.1).2.2)else
  if(Fh (GX q it.1).1 a).2≠0 then((Fh (GX q it.1).1 a).1,0,(Fh (GX q it.1).1 a).2)else((Fh (GX q it.1).1 a).1,a.length,0)
section
variable{m0 m1:Dq}{w w':jD}{g d p x tt bk L:Nat}{s s2:St}{b:Bk}{t:Tb}{F F2 J:Nat->Prop}{slot:UInt64}{jv:jL}{id:Int}{sv:jL}{st:UInt64}
def BK.sys(h:BK m0 w g d p x tt bk L s b t F J slot jv id sv st)(i:J6 m1 w' x d p L s2 F2)(m:AL F F2 w w'):BK m1 w' g d p x tt bk L s2 b t F2 J slot jv id sv st:=by
 have f:AL (λk=>F k\/J k) (λk=>F2 k\/J k) w w':=⟨m.touch.mono (λk a=>.inl a),λk a=>by
  rcases a with a|a
  ·exact(m.own k a).imp .inl (λh=>h)
  ·exact .inl (.inr a)⟩
 refine⟨i,h.tb.moved f,h.jg,λk a=>Be (h.jl k a) m.touch.size,h.box.touch m.touch h.fg,λe=>?_,h.g1,h.g2,h.g3,h.g4,h.x1,h.x2,h.c1,h.c2,h.c3⟩;rcases m.own g e with c|c
 ·exact h.fg c
 ·have:=h.box.lt;omega
def pJ{d n k:Nat}{e:TypeId}{v:jL}{xs:List jL}(h:w.ownsRow d e k v n xs)(hF:∀a,F a->a<d):∃c a,v=fD c n a/\n<=a/\KT w F c (n*k) xs:=by
 obtain⟨c,a,rfl,f,j⟩:=own_rowk h;refine⟨c,a,rfl,f,j,λq l e i=>?_⟩;rcases h.2 with⟨b,_⟩|⟨g,m,o,b,p,_⟩
 ·injection b with b;rw[b]at e;cases e
 ·injection b with b
  rw[b]at e;injection e with e
  subst e;have:=hF g i;omega
def Akz{lf:Int}{q:Ms}(bB:q.pw=.up lf)(h:BK q.pw.mode w g d p x tt bk L q.s b t F J slot jv id sv st)(key:ByteArray)(aZ:key.size<=16)(first low:UInt64){l:List Lk}(al:IE q.s first=iC l)(a0:l.length<=100000):
 Calls prog 58 #[ptr0 g,.agg #[fQ key,fP ig (first.toNat:Int)],fP ig (low.toNat:Int)] w λK w'=>
  K=gY (gJ #[fP gZ (Ik q low (key.data.toList,first)).2.1,fP gZ (Ik q low (key.data.toList,first)).2.2])/\
  ∃f,BK (Ik q low (key.data.toList,first)).1.pw.mode w' g d p x tt bk L (Ik q low (key.data.toList,first)).1.s b t f J slot jv id sv st/\AL F f w w':=by
 obtain⟨cA,s⟩:=q;simp only at bB al h;subst bB;have am:Pw.mode (.up lf)=.up (MU lf):=rfl;obtain⟨c,bs,aJ,Z⟩:=newB w 115 [fQ key,fP ig (first.toNat:Int)];have E:=h.below aJ;have ac:=Ac (λy(a:η c y)=>Uj (lm:=MU lf) (E.ix.below a).sys first);unfold bZ at ac;rw[al]at ac;have ab:Hid (∀y,η c y->y.cell? (Φ g)=iC (ptr0 d)/\y.cell? (Δ g 1)=iC (ptr0 p)/\y.cell? (Δ g 2)=iC (ptr0 x)/\y.cell? (Φ w.heap.size)=iC (fQ key)/\y.cell? (Δ w.heap.size 1)=iC (fP ig (first.toNat:Int))):=Ac (λy a=>⟨(E.box.ξ a).cell 0,(E.box.ξ a).cell 1,(E.box.ξ a).cell 2,(Z.ξ a).cell 0,(Z.ξ a).cell 1⟩);have be:Hid (∀X B,η c X->∀{f},AL F f X B->B.cell? (Φ w.heap.size)=iC (fQ key)):=Ac (λX B a _ aq=>((Z.ξ a).touch aq.touch (λaX=>Ω (h.ix.sys.lt _ aX))).cell 0);have bE:=Ac (λ(a5:Option Addr)(n:Nat)(c:jD)(G:LkR c a5 l)=>Aew l a5 n low c a0 G);have b1:Hid (∀n,F n->n<c.heap.size):=Ac E.ix.sys.lt;have m:=Ac E;obtain⟨b0,bh,bi,bj⟩:=h.ix.L0;have bR:Hid (Lu s l->∀a∈l,∃ar:Nat,a.off=((8*ar:Nat):Int)/\ar+8<=8*L/\ar<=10000):=Ac (λb5 a aZ=>by
  obtain⟨ct,cv,b3,b4⟩:=jH bi bj bh (b5.at_ a aZ).2.2.1;exact⟨a.off.toNat/8,b3,b4,O1⟩)
 obtain⟨r,ao⟩:∃r,LY l low.toNat=r:=⟨_,rfl⟩;have cw:r<=l.length:=by rw[<-ao];exact Qp _ _ _
 obtain⟨v,a1⟩:∃v,Ik ⟨.up lf,s⟩ low (key.data.toList,first)=v:=⟨_,rfl⟩;rw[a1];have i:Hid (v=if 0<r then((N9 ⟨.up lf,s⟩ l r).1,(l.length:Int) -(r:Nat),(N9 ⟨.up lf,s⟩ l r).2)else
  if(GX ⟨.up lf,s⟩ key.data.toList).2.2≠0 then((GX ⟨.up lf,s⟩ key.data.toList).1,0,(GX ⟨.up lf,s⟩ key.data.toList).2.2)else
  if(Fh (GX ⟨.up lf,s⟩ key.data.toList).1 l).2≠0 then((Fh (GX ⟨.up lf,s⟩ key.data.toList).1 l).1,0,(Fh (GX ⟨.up lf,s⟩ key.data.toList).1 l).2)else((Fh (GX ⟨.up lf,s⟩ key.data.toList).1 l).1,l.length,0)):=Ac (by
   rw[<-a1];unfold Ik;simp only[al,ao])
 rw[ao]at bE;obtain⟨H,z,I,A,Y⟩:=ab c (Below.refl _ _);have bV:=Ac bs;have bg:=Ac aJ;have az:=Ac a0;clear h E al bs aJ Z a0 am ao b0 bh bi bj a1;go_enter func58,ntmps58
 go_wp2_with fail
 rw[<-bV.out]
 go_region_held3(λw'=>w'.cell? (Φ g)=iC (ptr0 d)/\w'.cell? (Δ g 1)=iC (ptr0 p)/\w'.cell? (Δ g 2)=iC (ptr0 x)/\w'.cell? (Φ w.heap.size)=iC (fQ key)/\w'.cell? (Δ w.heap.size 1)=iC (fP ig (first.toNat:Int)))
  (first|exact⟨H,z,I,A,Y⟩|exact ab _ (((Dr.drew c).below _).trans aM))
  ((first|(go_at_call 87;refine(ac _ ((Dr.drew c).below _)).mono ?_;rintro K co⟨aM,bx,cB,rfl,br⟩;obtain⟨bG,b2,b8,a6,bC⟩:=pJ (F:=F) br (λn aV=>Be (b1 n aV) ((Dr.drew c).below c.heap.size).size);subst b8)))
 all_goals(
  have aE:=Ac bC;have bO:=Ac a6;have bN:=Ac (((Dr.drew c).below c.heap.size).trans aM);have bl:=Ac (bR bx);clear bC aM bx br H z I A Y ac a6
  go_wp2_with fail
  refine(bE bG b2 co aE.1).mono ?_;rintro K e⟨rfl,aR⟩;have k:=Ac (τ bN.out aR);have ad:=Ac (aE.below aR);obtain⟨H,z,I,A,Y⟩:=ab _ k.out;clear aR aE)
 by_cases an:0<r
 ·obtain⟨M,rfl⟩:∃M,r=M+1:=⟨r-1,O1⟩;rw[jM an]at i;have cx:IntKind.i64.wrap ((l.length:Int) -((M:Int)+1))=(l.length:Int) -((M:Int)+1):=IntWalk.i64_in _ (Ω az.out);have ae:=Ac (λX(a:η e X)=>Ae5 (q:=⟨.up lf,s⟩) ((m.below (τ k.out a)).ix.sys) (ad.below a) bO.out az.out bl.out M O1);obtain⟨⟨a4,aF⟩,G⟩:∃v,N9 ⟨.up lf,s⟩ l (M+1)=v:=⟨_,rfl⟩;rw[G]at ae i;simp only at ae i;clear G an ad
  go_wp2_with fail
  go_region_held3(λw'=>w'.cell? (Φ g)=iC (ptr0 d)/\w'.cell? (Δ g 1)=iC (ptr0 p))
   (first|exact⟨H,z⟩|exact T)
   ((first|(go_at_call 95;refine(ae _ ((Dr.drew e).below _)).mono ?_;rintro K N⟨rfl,P,V,o⟩;have T:N.cell? (Φ g)=iC (ptr0 d)/\N.cell? (Δ g 1)=iC (ptr0 p):=⟨((m.below (τ k.out ((Dr.drew e).below _))).box.touch o.touch m.fg).cell 0,((m.below (τ k.out ((Dr.drew e).below _))).box.touch o.touch m.fg).cell 1⟩)))
  all_goals(
   have bb:=Ac (m.below (τ k.out ((Dr.drew e).below _)));have bY:=Ac V;have C:=Ac o;clear V o T ae H z I A Y
   go_wp2_with fail
   go_ret2;obtain rfl:=i.out;exact⟨rfl,P,bb.sys (bb.ix.move bY.out C.out) C.out,(AL.of_below (τ bg.out (τ k.out ((Dr.drew e).below _)))).trans C.out⟩)
 ·have bH:r=0:=O1;subst bH;rw[ku an]at i;clear an;have Q:=Ac (λX(a:η e X)=>vV (lf:=lf) (m.below (τ k.out a)).ix key O1);unfold QG at Q;obtain⟨⟨a4,cs,aF⟩,G⟩:∃v,GX ⟨.up lf,s⟩ key.data.toList=v:=⟨_,rfl⟩;rw[G]at Q i;simp only at Q i;clear G
  go_wp2_with fail
  go_region_held3(λw'=>w'.cell? (Δ g 2)=iC (ptr0 x)/\w'.cell? (Φ w.heap.size)=iC (fQ key))
   (first|exact⟨I,A⟩|exact T)
   ((first|(go_at_call 96;refine(Q _ ((Dr.drew e).below _)).mono ?_;rintro K N⟨rfl,P,V,o⟩;have T:N.cell? (Δ g 2)=iC (ptr0 x)/\N.cell? (Φ w.heap.size)=iC (fQ key):=⟨((m.below (τ k.out ((Dr.drew e).below _))).box.touch o.touch m.fg).cell 2,be _ _ (τ k.out ((Dr.drew e).below _)) o⟩)))
  have bc:=Ac ((m.below (τ k.out ((Dr.drew e).below _))).sys V o);have C:=Ac ((AL.of_below (τ bg.out (τ k.out ((Dr.drew e).below _)))).trans o);have bS:=Ac ((ad.below ((Dr.drew e).below _)).moved o);clear V o T Q H z I A Y ad m be ab;by_cases aW:aF=0
  ·subst aW;rw[ku Θ]at i
   go_wp2_with fail
   go_loopw [65](λa2 wr=>∃(a:Nat)(j:Ms)(f:Nat->Prop),a<=l.length/\a2=fP gZ (a:Nat)/\Fh a4 l=Fh j (l.drop a)/\BK j.pw.mode wr g d p x tt bk L j.s b t f J slot jv id sv st/\AL P f N wr)(λa2 _=>l.length-(intOf a2).toNat)
   case atStart=>exact⟨0,a4,P,BA _,rfl,rfl,bc.out,AL.refl _ _⟩
   case round=>
    obtain⟨a,j,f,aZ,rfl,bw,bp,am⟩:=hrel;have a3:=Ac bw;have av:=Ac bp;have aD:=Ac am;clear bw bp am;have cy:=wk1 a (Ω az.out);by_cases U:a<l.length
    ·obtain⟨cq,cr,rfl,cp,cf,cg,ch,ci,cj⟩:=LkR.at (bS.moved aD.out).1 a U;obtain⟨ar,bA,b6,b7⟩:=bl _ (Cm U);have D:Hid (Fh j (l.drop a)=if(Dz j l[a].off).2=0 then Fh (Dz j l[a].off).1 (l.drop (a+1))else Dz j l[a].off):=Ac (by
      rw[Cf U,Fh])
     generalize l[a]=cd at*;obtain⟨W,cl,cc,cb,ce⟩:=cd;simp only at cf cg ch ci cj D bA;obtain⟨u,bt,aL,a8⟩:=newB wr 200 [fP gZ W,fP ig (cl.toNat:Int),fP ig (cc.toNat:Int),.bool cb,fQ ce];have S:=av.below aL;have bq:∀n,f n->n≠wr.heap.size:=λn aV=>Ω (av.ix.sys.lt n aV)
     have aa:=Ac (λX(ap:η u X)=>KG (q:=j) (S.below ap).ix.sys W O1);obtain⟨⟨ck,bm⟩,bD⟩:∃v,Dz j W=v:=⟨_,rfl⟩;rw[bD]at D aa;simp only at D aa;have bX:=Ac bt;have aw:Hid (∀X B,η u X->∀{bJ},AL f bJ X B->B.cell? (Δ g 1)=iC (ptr0 p)/\B.cell? (Φ wr.heap.size)=iC (fP gZ W)):=Ac (λX B ap _ aq=>⟨((S.below ap).box.touch aq.touch S.fg).cell 1,((a8.ξ ap).touch aq.touch (λaX=>bq _ aX rfl)).cell 0⟩);obtain⟨z,A⟩:=aw u u (Below.refl _ _) (AL.refl f u);have ba:=Ac S;have bL:=Ac aL;obtain⟨cz,b9,ca⟩:=ltT U;clear bt aL a8 bD bA b6 b7 S bq
     go_wp2_with fail
     rw[<-bX.out]
     go_region_held3(λw'=>w'.cell? (Δ g 1)=iC (ptr0 p)/\w'.cell? (Φ wr.heap.size)=iC (fP gZ W))
      (first|exact⟨z,A⟩|exact aw _ _ ((Dr.drew u).below _) R)
      ((first|(go_at_call 97;refine(aa _ ((Dr.drew u).below _)).mono ?_;rintro K cC⟨rfl,a9,a7,R⟩)))
     all_goals(
      have bd:=Ac ((ba.below ((Dr.drew u).below _)).sys ((ba.below ((Dr.drew u).below _)).ix.move a7 R) R);have bo:=Ac ((aD.trans (AL.of_below (τ bL.out ((Dr.drew u).below _)))).trans R);clear a7 R aa aw z A)
     by_cases ah:bm=0
     ·subst ah;rw[jM rfl]at D
      go_wp2_with fail
      go_roundw
      case rel=>exact⟨a+1,ck,a9,O1,by go_num,by rw[a3.out,D.out],bd.out,bo.out⟩
      case measure=>simp[intOf];omega
     ·have cm:(bm==0)=false:=beq_eq_false_iff_ne.2 ah;rw[ku ah]at D
      go_wp2_with fail
      go_ret2;obtain rfl:=i.out;rw[a3.out,D.out,jM ah];exact⟨rfl,a9,bd.out,C.trans bo.out⟩
    ·obtain⟨b9,ca⟩:=qA U;have cn:Hid (Fh j (l.drop a)=(j,0)):=Ac (by rw[DR O1];rfl)
     go_wp2_with fail
     go_ret2;obtain rfl:=i.out;rw[a3.out,cn.out,ku Θ];exact⟨rfl,f,av.out,C.trans aD.out⟩
  ·have cm:(aF==0)=false:=beq_eq_false_iff_ne.2 aW;rw[jM aW]at i
   go_wp2_with fail
   go_ret2;obtain rfl:=i.out;exact⟨rfl,P,bc.out,C.out⟩
end
def PT(low:UInt64):Ms->List (List UInt8×UInt64)->Int->Ms×Int×Int
 |a,[],c=>(a,c,0)
 |a,b::d,c=>if(Ik a low b).2.2≠0 then((Ik a low b).1,0,(Ik a low b).2.2)else PT low (Ik a low b).1 d (c+(Ik a low b).2.1)
def kW(low:UInt64):Ms->List (List UInt8×UInt64)->Prop
 |_,[]=>True
 |b,a::d=>(∃lf,b.pw=.up lf)/\a.1.length<=16/\(∃c,IE b.s a.2=iC c/\c.length<=100000)/\((Ik b low a).2.2=0->kW low (Ik b low a).1 d)
def wU{q:Ms}{low:UInt64}{it:List UInt8×UInt64}{l:List Lk}(a:IE q.s it.2=iC l)(c:l.length<=100000):0<=(Ik q low it).2.1/\(Ik q low it).2.1<=100000:=by
 have b:LY l low.toNat<=l.length:=Qp low.toNat l jw;unfold Ik;rw[a];simp only;split
 ·dsimp only;omega
 ·split
  ·dsimp only;omega
  ·split<;>dsimp only<;>omega
section
variable{w w':jD}{g d p x tt bk L:Nat}{b:Bk}{t:Tb}{F F2 J:Nat->Prop}{slot:UInt64}{id:Int}{sv:jL}{st:UInt64}
def Agn{lf:Int}{q:Ms}(a3:q.pw=.up lf)(h:BK q.pw.mode w g d p x tt bk L q.s b t F J slot .nilIface id sv st){items:List (List UInt8×UInt64)}{bt:List Int}(aa:DW q.s=iC (items,bt))(a0:items.length<=100000)(ac:kW (Ii t.wt slot) q items):
 Calls prog 29 #[ptr0 g] w λe w'=>e=gY (gJ #[fP gZ (PT (Ii t.wt slot) q items 0).2.1,fP gZ (PT (Ii t.wt slot) q items 0).2.2])/\
  ∃aF j,aF.nt=b.nt/\BK (PT (Ii t.wt slot) q items 0).1.pw.mode w' g d p x tt bk L (PT (Ii t.wt slot) q items 0).1.s aF t j J slot .nilIface id sv st/\AL (λa=>F a\/a=bk) (λa=>j a\/a=bk) w w':=by
 obtain⟨b6,s⟩:=q;simp only at a3 aa h;subst a3;have av:=Ac (Qb h);have ap:=Ac (Un h (o:=iD) rfl);have am:=Ac (Ur (len:=MU lf) h.ix);have bi:=Ac aa;have H:=Ac h;have P:=h.box.cell 2;unfold Cc at P;simp only[Ag,Am]at P;obtain⟨r,V⟩:=ε (Ii t.wt slot);have bc:=Ac V;rw[<-V]at ac⊢;obtain⟨n,Q⟩:∃n,PT r ⟨.up lf,s⟩ items 0=n:=⟨_,rfl⟩;rw[Q];have bG:=Ac Q;have bj:=Ac ac;have ar:=Ac a0;clear h aa V ac Q a0;go_enter func29,ntmps29
 go_wp2_with fail
 refine av.mono ?_;rintro e bC⟨rfl,rfl⟩
 go_wp2_with fail
 refine ap.mono ?_;rintro e bC⟨rfl,rfl⟩
 go_wp2_with fail
 refine am.mono ?_;rintro e l⟨R,a2⟩;rw[bi.out]at a2;obtain⟨b8,rfl,a1,bX⟩:=a2;have bd:=H.tb.book.lt;obtain⟨bH,bR,rfl,bo,a5⟩:=pJ (F:=λa=>F a\/a=bk) a1 (λa y=>y.elim (H.ix.sys.lt a) (λe=>e▸bd));have v:=H.below R;have be:=Ac R;have az:=Ac a5;have m:=Ac v;have d3:=v.box.cell 3;have d4:=v.box.cell 4;unfold Cc at d3 d4;simp only[Ag,Am]at d3 d4;have I:=Ac (λX(c:η l X)=>Ajd (v.tb.below c) slot);rw[<-bc.out]at I;have aq:Hid (∀X,Touch (λc=>c=bk) l X->X.cell? (Δ g 3)=iC (ptr0 tt)/\X.cell? (Δ g 4)=iC (fP ig (slot.toNat:Int))):=Ac (λX c=>⟨(m.box.touch c m.g2).cell 3,(m.box.touch c m.g2).cell 4⟩);clear av ap am R a1 bo a5 v P
 go_wp2_with fail
 go_region_held3(λw'=>w'.cell? (Δ g 3)=iC (ptr0 tt)/\w'.cell? (Δ g 4)=iC (fP ig (slot.toNat:Int)))
  (first|exact⟨d3,d4⟩|exact aq _ ((Touch.of_below ((Dr.drew l).below _)).trans ab (λ_ e=>.inl e)))
  ((first|(go_at_call 57;refine(I _ ((Dr.drew l).below _)).mono ?_;rintro e ah⟨rfl,N,bw,Z,aR,ab⟩)))
 all_goals(
  have al:Touch (λc=>c=bk) l ah:=(Touch.of_below ((Dr.drew l).below _)).trans ab (λ_ e=>.inl e);have Y:AL (λa=>F a\/a=bk) (λa=>F a\/a=bk) l ah:=⟨al.mono (λ_ e=>.inr e),λ_ y=>.inl y⟩;have bg:=Ac (m.book aR Z al);have bh:=Ac (az.moved Y);have aD:=Ac ((AL.of_below (F:=λa=>F a\/a=bk) be.out).trans Y);have aw:=Ac Z;clear aR ab al bw Z d3 d4 I aq az m Y
  go_wp2_with fail)
 go_loopw [7,38](λbB ad wr=>∃(c:Nat)(k:Ms)(i:Int)(j:Nat->Prop),c<=items.length/\ad=fP gZ (c:Nat)/\bB=fP gZ i/\0<=i/\i<=100000*(c:Int)/\PT r k (items.drop c) i=n/\kW r k (items.drop c)/\BK k.pw.mode wr g d p x tt bk L k.s N t j J slot .nilIface id sv st/\AL (λa=>F a\/a=bk) (λa=>j a\/a=bk) ah wr)(λ_ ad _=>items.length-(intOf ad).toNat)
 case atStart=>exact⟨0,⟨.up lf,s⟩,0,F,BA _,rfl,rfl,O1,O1,bG.out,bj.out,bg.out,AL.refl _ _⟩
 case round=>
  obtain⟨c,k,i,j,bV,rfl,rfl,bY,b0,a7,a8,aL,aZ⟩:=hrel;have f:=Ac a7;have z:=Ac a8;have an:=Ac aL;have K:=Ac aZ;clear a7 a8 aL aZ;by_cases B:c<items.length
  ·obtain⟨bO,b5,rfl,bS,ba,bb⟩:=pF (bh.moved K.out).1 c B;obtain⟨b2,bp,bq⟩:=ltT B;have b1:=wk1 c (Ω ar.out);have aV:items.drop c=items[c]::items.drop (c+1):=Cf B;rw[aV]at f z;obtain⟨⟨D,E⟩,aW⟩:∃br,br=items[c]:=⟨_,rfl⟩;rw[<-aW]at ba bb f z;obtain⟨⟨bN,a6⟩,U,⟨b4,A,aX⟩,C⟩:=z.out;simp only at ba bb U A;obtain⟨bD,a9,S,-⟩:=newB wr 115 [fQ ⟨D.toArray⟩,fP ig (E.toNat:Int)];have u:=Ac (Akz a6 (an.below S) ⟨D.toArray⟩ (by simpa[ByteArray.size]using U) E r A aX);have W:=wU (low:=r) (it:=(D,E)) A aX;simp only at u;obtain⟨⟨bx,ae,aJ⟩,a4⟩:∃n,Ik k r (D,E)=n:=⟨_,rfl⟩;rw[PT]at f;rw[a4]at u f C W;simp only at u f C W;have bs:=Ac a9;have bl:=Ac S;have bm:=Ac C;obtain⟨bJ,bL⟩:=W;have b3:IntKind.i64.wrap (i+ae)=i+ae:=IntWalk.i64_in _ (Ω ar.out);clear aW a9 S aV A a4 C a6 U z
   go_wp2_with fail
   rw[<-bs.out];refine u.mono ?_;rintro e bE⟨rfl,G,aM,M⟩;have ao:=Ac aM;have aE:=Ac (K.trans ((AL.of_below bl.out).trans (⟨M.touch.mono (λ_ h=>.inl h),λa y=>y.elim (λh=>(M.own a h).imp .inl (λh=>h)) (λh=>.inl (.inr h))⟩:AL (λa=>j a\/a=bk) (λa=>G a\/a=bk) bD bE)));clear u aM M;by_cases T:aJ=0
   ·subst T;rw[ku Θ]at f
    go_wp2_with fail
    go_roundw
    case rel=>exact⟨c+1,bx,i+ae,G,O1,by go_num,rfl,O1,by push_cast;omega,f.out,bm trivial,ao.out,aE.out⟩
    case measure=>simp[intOf];omega
   ·have b7:(aJ==0)=false:=beq_eq_false_iff_ne.2 T;rw[jM T]at f
    go_wp2_with fail
    go_ret2;obtain rfl:=f.out;exact⟨rfl,N,G,aw.out,ao.out,aD.trans aE.out⟩
  ·obtain⟨bp,bq⟩:=qA B;have bA:Hid (n=(k,i,0)):=Ac (by rw[<-f.out,DR O1];rfl)
   go_wp2_with fail
   go_ret2;obtain rfl:=bA.out;exact⟨rfl,N,j,aw.out,an.out,aD.trans K.out⟩
end
def fE:List Lk->List Lk
 |[]=>[]
 |[a]=>[⟨a.off,{a.rc with next:=0}⟩]
 |a::c::b=>a::fE (c::b)
def U2:∀(a:List Lk)(y:Lk),fE (a++[y])=a++[⟨y.off,{y.rc with next:=0}⟩]
 |[],y=>rfl
 |[b],y=>rfl
 |b::c::a,y=>by
  have:=U2 (c::a) y;rw[BD]at this;rw[BD,BD,fE,this];rfl
def Dj.ends{s:St}{v:UInt64}{l:List Lk}(h:Dj s v l):fE l=l:=by
 induction h with
 |nil=>rfl
 |cons o r l _ _ _ a _ b=>
  cases l with
  |nil=>
   have:r.next=0:=by
    generalize r.next=d at a;cases a;rfl
   cases r
   simp only at this;subst this;rfl
  |cons c l=>show _::fE (c::l)=_;rw[b]
def Xb(ch:List UInt8->List Lk)(k:List UInt8)(l:List Lk):List UInt8->List Lk:=λa=>if a=k then l else ch a
def QP(ch:List UInt8->List Lk)(k:List UInt8)(l:List Lk):Xb ch k l k=l:=jM rfl
def Il{ch:List UInt8->List Lk}{k a:List UInt8}{l:List Lk}(h:a≠k):Xb ch k l a=ch a:=ku h
def YI(a b:List Lk):CX (a++b)=CX a++CX b:=List.map_append ..
section
variable{L:Nat}{s s1:St}
def fF{o:Nat}(k:D6 s s1 (λp=>p≠o))(tk:AU s1 o 1)(q:wordsAt s1.ws (o/8) 8=(wordsAt s.ws (o/8) 8).set 2 0){y:Lk}(hy:y.off=(o:Int)):∀(a:List Lk){v:UInt64}{b:List Lk},Dj s v (a++y::b)->Dj s1 v (a++[⟨y.off,{y.rc with next:=0}⟩])
 |[],v,b,h=>by
  rw[List.nil_append]at h⊢;cases h with
  |cons d l _ n i j _ _=>
   have f:d=o:=by simp only at hy;omega
   subst f;refine .cons d {l with next:=0} [] tk i ?_ .nil (λ_ h=>nomatch h);rw[q,j];rfl
 |x::a,v,b,h=>by
  rw[BD]at h⊢;have g:=h.nodup.1;cases h with
  |cons d l _ n i j u m=>
   have w:d≠o:=λf=>by
    subst f;unfold CX at g;rw[BM]at g;refine(GN.1 g).1 (Dk.2 ⟨y,by simp,?_⟩);show y.off.toNat=(d:Int).toNat;rw[hy]
   obtain⟨r,t⟩:=k d 1 w n;refine .cons d l _ r i ?_ (fF k tk q hy a u) (λz e=>?_)
   ·have:=RX (o:=d) (c:=1) t;rw[show 8*Bd 1=8 from rfl]at this;rw[this,j]
   ·rcases AB.1 e with e|e
    ·exact m z (BH _ e)
    ·rw[BQ]at e;subst e;exact m y Θ
def Jj.inX{X:Nat->Prop}{s':St}{items:List Kv}(h:Jj X L s items)(i:BG L s')(m:∀o d,¬Ej s' o d)(g:∀o,(∃d,AU s' o d)<->∃d,AU s o d)(l:D6 s s' (λo=>¬X o))(e:s'.ws 9=s.ws 9):Jj X L s' items:=by
 refine⟨i,m,?_,h.even⟩;rcases h.tree with⟨a,b,c⟩|⟨j,a,b,c,f,k⟩
 ·exact .inl ⟨by rw[e,a],b,λo=>(g o).trans (c o)⟩
 ·exact .inr ⟨j,by rw[e];exact a,by rw[e];exact b.keep h.ok i l f,c,f,λo=>(g o).trans (k o)⟩
variable{items:List Kv}{ch:List UInt8->List Lk}
def CU.trim(h:CU L s items ch){kv:Kv}(l:kv∈items){a b:List Lk}{y:Lk}(e:ch kv.1=a++y::b)(m:s1={s with ws:=Dt s.ws (y.off.toNat/8+2) 0}):
 E8 (λo=>o∈CX b) L s1 items (Xb ch kv.1 (fE (a++[y])))/\(∀f,f<16->s1.ws f=s.ws f):=by
 obtain⟨u,ad⟩:=h.chain kv l;rw[e]at u;obtain⟨o,r⟩:=ε y.off.toNat;have w:o∈CX (ch kv.1):=by rw[e,r];exact Dk.2 ⟨y,by simp,rfl⟩
 have B:AU s o 1:=u.taken o (by rw[<-e];exact w);have T:y.off=(o:Int):=by
  have:=congrArg (λX=>X[a.length]?) u.Au1;simp[CX]at this;omega
 rw[<-r]at m;have C:∀f,f≠o/8+2->s1.ws f=s.ws f:=λf q=>by rw[m];exact ku q
 have F:Hw o 1 (o/8+2):=⟨O1,by show _<_+8*1;omega⟩;have ab:=h.ix.ok.D5 (B.bounds h.ix.ok).1 F;have Y:BG L s1:=by
  rw[m];exact h.ix.ok.words (λae ac=>ku O1)
 have A:∀p d,AU s1 p d<->AU s p d:=λp d=>by rw[m];exact Iff.rfl
 have v:D6 s s1 (λp=>p≠o):=λp K c J=>⟨(A p K).2 J,λf q=>C f (QK h.ix.ok J B c q F)⟩
 have H:∀f,f<16->s1.ws f=s.ws f:=λf q=>C f O1
 have S:wordsAt s1.ws (o/8) 8=(wordsAt s.ws (o/8) 8).set 2 0:=by
  refine List.ext_getElem (by simp[wordsAt]) λt Z aa=>?_
  rw[List.getElem_set,KX];by_cases j:2=t
  ·subst j;rw[jM rfl,m];exact jM rfl
  ·rw[ku j,KX];exact C _ O1
 have x:CX (fE (a++[y]))=CX a++[o]:=by rw[U2,YI,r];rfl
 have n:CX (ch kv.1)=CX a++[o]++CX b:=by rw[e,YI,r];simp[CX]
 have I:=(h.chain kv l).1.nodup.1;rw[n]at I;have z:∀k,∀p∈CX (Xb ch kv.1 (fE (a++[y])) k),p∈CX (ch k):=λk p c=>by
  by_cases g:k=kv.1
  ·subst g;rw[QP,x]at c;rw[n];exact BH _ c
  ·rwa [Il g]at c
 refine⟨⟨?_,λkv' i=>⟨?_,(h.chain kv' i).2⟩,λk G=>?_,λV M W N P p c Q=>?_,λkv' i p c D=>?_⟩,H⟩
 ·refine(h.ix.inX Y (λp d E=>h.ix.nh p d (by rw[m]at E;exact E)) (λp=>exists_congr (A p)) (v.mono (λp c=>λj=>c ⟨kv,l,j▸w⟩)) (H 9 U)).congr λp=>?_
  constructor
  ·rintro⟨kv',i,c⟩;by_cases g:kv'.1=kv.1
   ·rw[g,n]at c;rcases AB.1 c with c|c
    ·exact .inl ⟨kv,l,by rw[QP,x];exact c⟩
    ·exact .inr c
   ·exact .inl ⟨kv',i,by rw[Il g];exact c⟩
  ·rintro(⟨kv',i,c⟩|c)
   ·exact⟨kv',i,z _ p c⟩
   ·exact⟨kv,l,by rw[n];exact Bj _ c⟩
 ·by_cases g:kv'.1=kv.1
  ·have R:Dj s kv'.2 (a++y::b):=by
    have:=(h.chain kv' i).1
    rwa [g,e]at this
   rw[g,QP,U2];exact fF v ((A o 1).2 B) S T a R
  ·rw[Il g];exact(h.chain kv' i).1.keep v (λp c j=>h.Uo kv' i kv l g p c (j▸w))
 ·rw[Il (λj=>G kv l j.symm)];exact h.none k G
 ·exact h.Uo V M W N P p (z _ p c) (z _ p Q)
 ·by_cases g:kv'.1=kv.1
  ·rw[g,QP,x]at c;exact(List.nodup_append.1 I).2.2 p c p D rfl
  ·rw[Il g]at c;exact h.Uo kv' i kv l g p c (by rw[n];exact Bj _ D)
def XZ:∀(l:List Lk){s:St}{c:Nat->Prop},E8 c L s items ch->(CX l).Nodup->(∀a∈CX l,c a)->l.map (·.off)=(CX l).map Gt->
 ∃s2,Fh ⟨.up (-1),s⟩ l=(⟨.up (-1),s2⟩,0)/\E8 (λa=>c a/\a∉CX l) L s2 items ch/\s2.sh=s.sh/\∀d,d<16->s2.ws d=s.ws d
 |[],s,c,h,_,_,_=>⟨s,rfl,h.congr (λa=>by simp[CX]),rfl,λ_ _=>rfl⟩
 |b::l,s,c,h,q,g,o=>by
  have r:(b.off.toNat::CX l).Nodup:=q;obtain⟨v,w⟩:=GN.1 r;have p:b.off::l.map (·.off)=Gt b.off.toNat::(CX l).map Gt:=o;obtain⟨t,u⟩:=List.cons.inj p;obtain⟨s2,k,B,i,x⟩:=h.drop (g _ (Bo ..));obtain⟨y,m,C,z,A⟩:=XZ l B w (λa f=>⟨g a (Bz _ f),λj=>v (by rw[<-show a=b.off.toNat from j];exact f)⟩) u;have n:Dz ⟨.up (-1),s⟩ b.off=(⟨.up (-1),s2⟩,0):=by
   rw[Ox,t];show((⟨.up (-1),(FM s (b.off.toNat:Int)).1⟩,(FM s (b.off.toNat:Int)).2):Ms×Int)=_;rw[k]
  refine⟨y,?_,C.congr (λa=>?_),z.trans i,λd e=>(A d e).trans (x d e)⟩
  ·unfold Fh;rw[n,jM rfl,m]
  ·show(c a/\a≠b.off.toNat)/\a∉CX l<->c a/\a∉b.off.toNat::CX l;rw[List.mem_cons,not_or,and_assoc]
def CU.Arp(h:CU L s items ch){key:List UInt8}(z:key.length<=16)(g:∃kv∈items,kv.1=Ci key):∃D i,Qo s key=((Qo s key).1,D,0)/\E8 (λo=>o∈CX (ch (Ci key))) L (Qo s key).1 i (Xb ch (Ci key) [])/\TU items i (Ci key)/\NQ s (Qo s key).1:=by
 obtain⟨kv,g,m⟩:=g;rcases oJ h.ix key z with⟨_,q⟩|⟨r,q,E,i,y,c⟩
 ·exact absurd m (q kv g)
 ·refine⟨(Qo s key).2.1,i,by rw[<-q],⟨?_,λkv' d=>?_,λk A=>?_,λt b u f B p a=>?_,λkv' d p a=>?_⟩,c,r.Afv⟩
  ·refine y.congr λp=>?_
   constructor
   ·rintro⟨kv',d,a⟩;by_cases e:kv'.1=Ci key
    ·exact .inr (e▸a)
    ·exact .inl ⟨kv',(c kv').2 ⟨d,e⟩,by rw[Il e];exact a⟩
   ·rintro(⟨kv',d,a⟩|a)
    ·obtain⟨b,f⟩:=(c kv').1 d;exact⟨kv',b,by rw[Il f]at a;exact a⟩
    ·exact⟨kv,g,by rw[m];exact a⟩
  ·obtain⟨b,f⟩:=(c kv').1 d;rw[Il f];exact⟨(h.chain kv' b).1.keep r.keep (λp a=>⟨kv',b,a⟩),(h.chain kv' b).2⟩
  ·by_cases e:k=Ci key
   ·rw[e,QP]
   ·rw[Il e];exact h.none k (λkv' b l=>A kv' ((c kv').2 ⟨b,λx=>e (l▸x)⟩) l)
  ·obtain⟨n,j⟩:=(c t).1 b;obtain⟨v,w⟩:=(c u).1 f;rw[Il j]at a;rw[Il w];exact h.Uo t n u v B p a
  ·obtain⟨n,j⟩:=(c kv').1 d;rw[Il j]at a;exact λC=>h.Uo kv' n kv g (λl=>j (l.trans m)) p a (m▸C)
structure Cleaned(L:Nat)(s:St)(items:List Kv)(ch:List UInt8->List Lk)(low:UInt64)(k:List UInt8)(s2:St)(Gq:List Kv)(ch2:List UInt8->List Lk):Prop where
 ok:CU L s2 Gq ch2
 Afv:NQ s s2
 chs:ch2=Xb ch k (fE ((ch k).take (LY (ch k) low.toNat)))
 its:(0<LY (ch k) low.toNat/\Gq=items)\/(LY (ch k) low.toNat=0/\TU items Gq k)
def Ago(h:CU L s items ch)(low:UInt64){key:List UInt8}(S:key.length<=16){v:UInt64}(u:(Ci key,v)∈items):
 ∃s2 o I,Ik ⟨.up (-1),s⟩ low (key,v)=(⟨.up (-1),s2⟩,((ch (Ci key)).length:Int) -(LY (ch (Ci key)) low.toNat:Nat),0)/\Cleaned L s items ch low (Ci key) s2 o I:=by
 obtain⟨j,V⟩:=h.chain _ u;simp only at j V;have F:=j.listed h.ix.ok;obtain⟨c,e⟩:=ε (ch (Ci key));rw[<-e]at j F;have T:LY c low.toNat<=c.length:=Qp low.toNat c jw;obtain⟨f,g⟩:=ε (LY c low.toNat);have z:=j.nodup.1;have A:=j.Au1;rw[<-g]at T;have Q:Ik ⟨.up (-1),s⟩ low (key,v)=if 0<f then((N9 ⟨.up (-1),s⟩ c f).1,(c.length:Int) -(f:Nat),(N9 ⟨.up (-1),s⟩ c f).2)else
  if(GX ⟨.up (-1),s⟩ key).2.2≠0 then((GX ⟨.up (-1),s⟩ key).1,0,(GX ⟨.up (-1),s⟩ key).2.2)else
  if(Fh (GX ⟨.up (-1),s⟩ key).1 c).2≠0 then((Fh (GX ⟨.up (-1),s⟩ key).1 c).1,0,(Fh (GX ⟨.up (-1),s⟩ key).1 c).2)else((Fh (GX ⟨.up (-1),s⟩ key).1 c).1,c.length,0):=by
  unfold Ik;simp only[F,<-g]
 rw[Q,<-e,<-g];by_cases m:0<f
 ·rw[jM m];by_cases t:f=c.length
  ·have r:N9 ⟨.up (-1),s⟩ c f=(⟨.up (-1),s⟩,0):=by unfold N9;rw[jM t]
   rw[r];refine⟨s,items,ch,rfl,h,NQ.refl s,?_,.inl ⟨by rw[<-e,<-g];exact m,rfl⟩⟩;rw[<-e,<-g,t,List.take_length,j.ends,e];funext k';unfold Xb;split
   ·rename_i J;rw[J]
   ·rfl
  ·obtain⟨d,rfl⟩:∃d,f=d+1:=⟨f-1,O1⟩;have w:d<c.length:=O1;have U:c=c.take d++c[d]::c.drop (d+1):=by rw[<-Cf w,List.take_append_drop]
   obtain⟨s1,B⟩:∃s1,s1=({s with ws:=Dt s.ws (c[d].off.toNat/8+2) 0}:St):=⟨_,rfl⟩;obtain⟨n,H⟩:=h.trim u (a:=c.take d) (b:=c.drop (d+1)) (y:=c[d]) (e.symm.trans U) B;have R:(CX (c.drop (d+1))).Nodup:=by
    unfold CX at z⊢;rw[Oo];exact z.sublist (List.drop_sublist ..)
   obtain⟨s2,q,E,p,D⟩:=XZ (c.drop (d+1)) n R (λC i=>i) (by
    unfold CX at A⊢;rw[Oo,A,Oo,Oo])
   have r:N9 ⟨.up (-1),s⟩ c (d+1)=(⟨.up (-1),s2⟩,0):=by
    unfold N9;rw[ku t,show d+1-1=d from rfl,Ah w];simp only[Rl];rw[jM trivial,<-B,q]
   rw[r];refine⟨s2,items,_,rfl,E.ok (λC i=>i.2 i.1),⟨by rw[p,B],λl k _=>(D l k).trans (H l k)⟩,?_,.inl ⟨by rw[<-e,<-g];exact m,rfl⟩⟩;show _=Xb ch (Ci key) _;rw[<-e,<-g,List.take_succ_eq_append_getElem w]
 ·rw[ku m];obtain⟨W,o,K,n,P,G⟩:=h.Arp S ⟨_,u,rfl⟩;rw[<-e]at n;obtain⟨s2,q,E,p,D⟩:=XZ c n z (λC i=>i) A;have M:GX ⟨.up (-1),s⟩ key=(⟨.up (-1),(Qo s key).1⟩,W,0):=by rw[rP,K]
  rw[M];simp only[q];have x:f=0:=O1;refine⟨s2,o,_,?_,E.ok (λC i=>i.2 i.1),⟨p.trans G.1,λl k N=>(D l k).trans (G.2 l k N)⟩,?_,.inr ⟨by rw[<-e,<-g,x],P⟩⟩
  ·simp[x]
  ·rw[<-e,<-g,x];rfl
end
def wV(E:Eg)(id:Int)(key:ByteArray):ByteArray×Int:=
 if EY E.t.wt id=jw then(⟨#[]⟩,2)else if 16<key.size then(⟨#[]⟩,3)else Agk E.q.s (E.t.sets id.toNat) (E.t.wt.ats id.toNat).toNat key
def Pm(E:Eg)(id:Int)(b a:ByteArray):List Pr×Int:=
 if EY E.t.wt id=jw then([],2)else match DW E.q.s with
 |none=>([],5)
 |some (items,_)=>(wR E.q.s (E.t.wt.ats id.toNat).toNat b a items (E.t.sets id.toNat),0)
def Zc(E:Eg):Eg×Int×Int:=
 if E.on.isSome=true then(E,0,11)else match DW E.q.s with
 |none=>(E,0,5)
 |some (items,_)=>({E with q:=(PT (Ii E.t.wt E.slot) E.q items 0).1},(PT (Ii E.t.wt E.slot) E.q items 0).2)
structure pK(s:St):Prop where
 get:∀key v,GR s key=(v,0)->∃l,IE s v=iC l/\l.length<=100000
 all:∃items met,DW s=iC (items,met)/\items.length<=100000/\∀k(h:k<items.length),∃l,IE s items[k].2=iC l/\l.length<=100000
section
variable{lm:Mode}{w w':jD}{g d p x tt bk L:Nat}{s:St}{b:Bk}{t:Tb}{F J:Nat->Prop}{slot:UInt64}{jv:jL}{id:Int}{sv:jL}{st:UInt64}
def Agp{m0:Dq}(h:BK m0 w g d p x tt bk L s b t F J slot jv id sv st){i:Int}(f e:ByteArray)(j:EY t.wt i=jw):
 Calls prog 25 #[ptr0 g,fP gZ i,fQ f,fQ e] w λc w'=>c=gY (gJ #[fD iD 0 0,fP gZ 2])/\w=w':=by
 have a:=Ac (Y3 h i);rw[j,ku Bool.false_ne_true]at a;clear h;go_enter func25,ntmps25
 go_wp2_with fail
 refine a.mono ?_;rintro c k⟨rfl,rfl⟩
 go_wp2_with fail
 go_ret2;exact⟨rfl,rfl⟩
def iG{m0:Dq}(h:BK m0 w g d p x tt bk L s b t F J slot jv id sv st){o:Nat}(c:OnV jv id (iC o)):
 Calls prog 29 #[ptr0 g] w λa w'=>a=gY (gJ #[fP gZ 0,fP gZ 11])/\w=w':=by
 have f:=Ac (Qb h);have e:=Ac (Un h c);clear h c;go_enter func29,ntmps29
 go_wp2_with fail
 refine f.mono ?_;rintro a i⟨rfl,rfl⟩
 go_wp2_with fail
 refine e.mono ?_;rintro a i⟨rfl,rfl⟩
 go_wp2_with fail
 go_ret2;exact⟨rfl,rfl⟩
end
section
variable{g d p x tt bk L:Nat}{E:Eg}{lf:Int}
def Avs(w:E.q.pw=.up lf)(l:NR E.t)(v:pK E.q.s)(id:Int)(key:ByteArray)(o:key.size<=4294967296):Steps (EgM g d p x tt bk L E) (EgM g d p x tt bk L E) 24 #[ptr0 g,fP gZ id,fQ key] (gJ #[fQ (wV E id key).1,fP gZ (wV E id key).2]):=by
 intro A X j;have k:=j;obtain⟨b,F,J,jv,D,sv,st,h,B,C⟩:=j;have r:E.q.pw.mode=.up (MU lf):=by rw[w];rfl
 rw[r]at h;by_cases f:EY E.t.wt id=jw\/16<key.size
 ·have c:wV E id key=(⟨#[]⟩,if EY E.t.wt id=jw then 2 else 3):=by
   unfold wV;by_cases a:EY E.t.wt id=jw
   ·rw[jM a,jM a]
   ·rw[ku a,ku a,jM (f.resolve_left a)]
  rw[c];refine(Akx h key o f).mono ?_;rintro c w'⟨rfl,rfl⟩;exact⟨rfl,k,Touch.refl _ _⟩
 ·obtain⟨a,n⟩:=not_or.1 f;obtain⟨e,rfl,i,u⟩:=Oe (t:=E.t.wt) (id:=id) (by simpa using a);have c:wV E (e:Int) key=Agk E.q.s (E.t.sets e) (E.t.wt.ats e).toNat key:=by
   unfold wV;rw[ku a,ku n];rfl
  rw[c];refine(Arn h i u (l e i).1 (l e i).2.1 key O1 (λz y=>v.get _ z y)).mono ?_;rintro c w'⟨rfl,m⟩;exact⟨rfl,k.below m,Touch.of_below m⟩
def Arq(C:E.q.pw=.up lf)(v:NR E.t)(B:pK E.q.s)(id:Int)(c a:ByteArray){f:jD}{X:Nat->Prop}(l:EgM g d p x tt bk L E f X):
 Calls prog 25 #[ptr0 g,fP gZ id,fQ c,fQ a] f λe w'=>∃k,e=gY (gJ #[k,fP gZ (Pm E id c a).2])/\
  w'.ownsRow f.heap.size 80 2 k (Pm E id c a).1.length (Gw (Pm E id c a).1)/\EgM g d p x tt bk L E w' X/\η f w':=by
 have m:=l;obtain⟨b,F,J,jv,H,sv,st,h,D,G⟩:=l;have w:E.q.pw.mode=.up (MU lf):=by rw[C];rfl
 rw[w]at h;by_cases i:EY E.t.wt id=jw
 ·have e:Pm E id c a=([],2):=by unfold Pm;rw[jM i]
  rw[e];refine(Agp h c a i).mono ?_;rintro e w'⟨rfl,rfl⟩;exact⟨_,rfl,CP _ _ _ _,m,Below.refl _ _⟩
 ·obtain⟨j,rfl,o,z⟩:=Oe (t:=E.t.wt) (id:=id) (by simpa using i);obtain⟨items,I,r,y,A⟩:=B.all;have e:Pm E (j:Int) c a=(wR E.q.s (E.t.wt.ats j).toNat c a items (E.t.sets j),0):=by
   unfold Pm;rw[ku i,r];rfl
  rw[e];refine(Aoj h o z (v j o).1 c a r y A).mono ?_;rintro e w'⟨k,rfl,u,n⟩;exact⟨k,rfl,u,m.below n,n⟩
def Avt(z:E.q.pw=.up lf)(l:∃items q,DW E.q.s=iC (items,q)/\items.length<=100000/\kW (Ii E.t.wt E.slot) E.q items):Steps (EgM g d p x tt bk L E) (EgM g d p x tt bk L (Zc E).1) 29 #[ptr0 g] (gJ #[fP gZ (Zc E).2.1,fP gZ (Zc E).2.2]):=by
 intro C X n;have w:=n;obtain⟨b,F,J,jv,G,sv,st,h,e,k⟩:=n;cases f:E.on with
 |some B=>
  have a:Zc E=(E,0,11):=by unfold Zc;rw[f];rfl
  rw[a];rw[f]at k;refine(iG h (o:=B.id) k.onv).mono ?_;rintro a w'⟨rfl,rfl⟩;exact⟨rfl,w,Touch.refl _ _⟩
 |none=>
  obtain⟨items,q,l,y,A⟩:=l;have a:Zc E=({E with q:=(PT (Ii E.t.wt E.slot) E.q items 0).1},(PT (Ii E.t.wt E.slot) E.q items 0).2):=by unfold Zc;rw[f,l];rfl
  rw[a];rw[f]at k;obtain⟨rfl,rfl,rfl,rfl⟩:=k;refine(Agn z h l y A).mono ?_;rintro a w'⟨rfl,u,r,D,v,o⟩;refine⟨rfl,⟨u,r,J,_,_,_,_,v,⟨e.ng,e.nx,λi c m=>?_,e.c1,e.c2⟩,by show OnM E.on _ _ _ _ _ _ _ _ _ _ _ _ _ _ _ _ _ _;rw[f];exact⟨rfl,rfl,rfl,rfl⟩⟩,o.touch.mono (λi c=>?_)⟩
  ·rcases o.own i (.inl c)with(j|j)|j
   ·exact e.nf i j m
   ·exact h.apart.1 (j▸m)
   ·have:=h.jl i (.inr m);omega
  ·rcases c with c|c
   ·exact JK (e.nf i c) (λa=>h.ix.kU.1 (a▸c)) (λa=>h.ix.kU.2 (a▸c))
   ·exact JK (c▸h.apart.1) (λa=>h.c1.1 (c.symm.trans a)) (λa=>h.c1.2 (c.symm.trans a))
def wW(P:E.q.pw=.up lf)(u:NR E.t)(S:(E.q.s.ws 8).toNat<=E.slot.toNat)(id:Int):Steps (EgM g d p x tt bk L E) (EgM g d p x tt bk L (LH E id).1) 26 #[ptr0 g,fP gZ id] (fP gZ (LH E id).2):=by
 intro q X G;have T:=G;obtain⟨b,F,J,jv,am,sv,st,h,w,B⟩:=G;by_cases o:EY E.t.wt id=jw\/(E.on.map (·.id)).isSome=true
 ·have f:LH E id=(E,if EY E.t.wt id=jw then 2 else 11):=by
   unfold LH;by_cases i:EY E.t.wt id=jw
   ·rw[jM i,jM i]
   ·rw[ku i,ku i,jM (by simpa using o.resolve_left i)]
  rw[f];refine(wO h B.onv o).mono ?_;rintro f w'⟨rfl,rfl⟩;exact⟨rfl,T,Touch.refl _ _⟩
 ·obtain⟨i,r⟩:=not_or.1 o;obtain⟨a,rfl,l,N⟩:=Oe (t:=E.t.wt) (id:=id) (by simpa using i);have C:E.on=none:=by cases Y:E.on with
   |none=>rfl
   |some an=>rw[Y]at r;exact absurd rfl r
  rw[C]at B;obtain⟨rfl,rfl,rfl,rfl⟩:=B;have f:LH E (a:Int)=if E.t.sets a=[]then({E with t:=Oh E.t a},0)else if KJ E.t.FZ (E.t.sets a) (E.t.wt.ats a)then({E with t:=Oh E.t a},9)else
   if 60000<=E.slot.toNat then({E with t:=Oh E.t a},10)else({E with on:=iC ⟨a,E.t.sets a,[]⟩},0):=by
   unfold LH Eg.dn;rw[ku i,C,P];rfl
  rw[f];have z:∀n,((E.t.sets a=[]/\n=0)\/(E.t.sets a≠[]/\KJ E.t.FZ (E.t.sets a) (E.t.wt.ats a)=true/\n=9)\/(E.t.sets a≠[]/\KJ E.t.FZ (E.t.sets a) (E.t.wt.ats a)=jw/\60000<=E.slot.toNat/\n=10))->
   Calls prog 26 #[ptr0 g,fP gZ (a:Int)] q λf w'=>f=gY (fP gZ n)/\EgM g d p x tt bk L {E with t:=Oh E.t a} w' X/\Touch (Outs X) q w':=λn o=>by
   refine(wP h l N (u a l).1 o).mono ?_;rintro f w'⟨rfl,ah,r,Q,R⟩;exact⟨rfl,EgM.book h w (by rw[C];exact⟨rfl,rfl,rfl,rfl⟩) Q r R⟩
  by_cases m:E.t.sets a=[]
  ·rw[jM m];exact z 0 (.inl ⟨m,rfl⟩)
  ·rw[ku m];by_cases k:KJ E.t.FZ (E.t.sets a) (E.t.wt.ats a)=true
   ·rw[jM k];exact z 9 (.inr (.inl ⟨m,k,rfl⟩))
   ·rw[ku k];have k:KJ E.t.FZ (E.t.sets a) (E.t.wt.ats a)=false:=by simpa using k
    by_cases y:60000<=E.slot.toNat
    ·rw[jM y];exact z 10 (.inr (.inr ⟨m,k,y,rfl⟩))
    ·rw[ku y];have A:E.q.pw.mode=.up (MU lf):=by rw[P];rfl
     have D:=h.ix.box.lt;have ab:=h.ix.sys.tabs.lt;have al:=h.box.lt;have ad:∀e,X e->e<q.heap.size:=λe c=>h.jl e (.inr c)
     rw[A]at h;refine(wQ h l N rfl (List.length_pos_iff.2 m) (u a l).2.2 (u a l).2.1 (u a l).1 k O1 S).mono ?_;rintro f w'⟨rfl,j,ae,ao,aa,H,I,K,V,W⟩;have U:=H.Abb (J':=λe=>(J e\/e=j)\/X e) (λe=>by constructor<;>(intro h;rcases h with(h|h)|h<;>simp[h]));have M:∀{v:Value},FI w' (EF F (λe=>J e\/X e) bk b.nt j) v (E.t.sets a)->FI w' (EF F (λe=>(J e\/e=j)\/X e) bk b.nt j) v (E.t.sets a):=λac=>ac.mono (λe _ c=>by
      rcases c with c|((c|c)|c)|c
      ·exact .inl c
      ·exact .inr (.inl (.inl c))
      ·exact .inr (.inr (.inr (.inr c)))
      ·exact .inr (.inl (.inr c))
      ·exact .inr (.inr c))
     have Z:¬X j:=λD=>Ω (ad j D)
     refine⟨rfl,⟨b,F,λe=>J e\/e=j,_,_,_,_,by show BK E.q.pw.mode _ _ _ _ _ _ _ _ _ _ _ _ _ _ _ _ _ _;rw[A];exact U,w,rfl,rfl,j,ae,fD iD 0 0,q.heap.size,rfl,⟨⟨by rw[A];exact H.ix,I.box,CP _ _ _ _,(K.jobs (v:=fD iD 0 0) (λe c=>by simp[AV]at c)),I.out,aa,D,ab,by simp[AV],λe c=>by simp[AV]at c⟩,.inr rfl,λe c=>by simp[AV]at c,Z,λe c=>by simp[AV]at c,O1,by simp[AV],M K,M V⟩⟩,W.mono (λe c=>?_)⟩;exact JK (c▸w.ng) (λf=>h.c3.1 (c.symm.trans f)) (λf=>h.c3.2 (c.symm.trans f))
end
section
variable{L:Nat}{s:St}{items:List Kv}{ch:List UInt8->List Lk}
def fG(b:BG L s){v:UInt64}{l:List Lk}(h:Dj s v l):l.length<=65537:=by
 have a:=Qe (CX l) (Ep 65537) h.nodup.1 (λd c=>by
  have:=((h.taken d c).bounds b).2.1;have:=b.L1;exact GK.2 O1)
 rw[Agy]at a;unfold CX at a
 rwa [CZ]at a
def Ak0{X:Nat->Prop}(h:Jj X L s items){b:Kv}(a:b∈items):b.1.length<=32:=by
 rcases h.tree with⟨_,d,_⟩|⟨_,_,c,_⟩
 ·rw[d]at a;cases a
 ·exact(c.nib h.ok b a).2.1
def Arr{X:Nat->Prop}(h:Jj X L s items){a:Kv}(d:a∈items):Ci (pairs a.1)=a.1/\(pairs a.1).length<=16:=by
 have b:=h.even a d;unfold NS at b;simp only[Bool.and_eq_true,decide_eq_true_eq]at b;have f:=Ak0 h d;have c:Ci (pairs a.1)=a.1:=Z5 _ (by first|exact b.1|exact b.2) (by first|exact b.2|exact b.1);have e:=Jl (pairs a.1);rw[c]at e;exact⟨c,O1⟩
def fH(h:CU L s items ch):items.length<=65537:=by
 have n:(items.map λc=>(CX (ch c.1)).getD 0 0).Nodup:=by
  rw[List.nodup_iff_pairwise_ne,List.pairwise_map];refine(Xl.2 λ{a b}g=>?_);have l:=Xl.1 h.ix.up g;have j:=g.subset (Bo ..);have f:=g.subset (Bz _ (BQ.2 rfl));have o:a.1≠b.1:=λd=>by rw[d,FN]at l;cases l
  have i:∀c∈items,(CX (ch c.1)).getD 0 0∈CX (ch c.1):=λc e=>by
   have:=vI (h.chain c e).1 (h.chain c e).2;cases d:ch c.1 with
   |nil=>exact absurd d this
   |cons x q=>simp[CX]
  exact λd=>h.Uo a j b f o _ (i a j) (d▸i b f)
 have f:=Qe _ (Ep 65537) n (λr p=>by
  obtain⟨c,e,rfl⟩:=Dk.1 p;have k:=(h.chain c e).1;have m:(CX (ch c.1)).getD 0 0∈CX (ch c.1):=by
   have:=vI k (h.chain c e).2;cases d:ch c.1 with
   |nil=>exact absurd d this
   |cons x q=>simp[CX]
  have:=((k.taken _ m).bounds h.ix.ok).2.1;have:=h.ix.ok.L1;exact GK.2 O1)
 rwa [Agy,CZ]at f
def CU.read(h:CU L s items ch):pK s:=by
 have e:∀kv∈items,∃f,IE s kv.2=iC f/\f.length<=100000:=λkv a=>by
  have d:=(h.chain kv a).1;have:=fG h.ix.ok d;exact⟨_,d.listed h.ix.ok,O1⟩
 refine⟨λkey l b=>?_,?_⟩
 ·by_cases a:key.length<=16
  ·rcases oN h.ix key a with⟨m,c,i,_⟩|⟨c,_⟩
   ·rw[b]at c;cases c;exact e _ i
   ·rw[b]at c;cases c
  ·unfold GR at b;rw[jM O1]at b;cases b
 ·obtain⟨j,g,_⟩:=WR h.ix;have:=fH h;refine⟨_,_,g,by rw[CZ];omega,λk a=>?_⟩;rw[CZ]at a;rw[List.getElem_map];exact e items[k] (Cm a)
def Ars(low:UInt64):List Kv->(List UInt8->List Lk)->List UInt8->List Lk
 |[],ch=>ch
 |a::b,ch=>Ars low b (Xb ch a.1 (fE ((ch a.1).take (LY (ch a.1) low.toNat))))
def Ak1{x:Lk}(l:List Lk)(a:x∈fE l):∃b∈l,b.off=x.off/\b.rc.stamp=x.rc.stamp:=by
 rcases List.eq_nil_or_concat l with rfl|⟨c,b,rfl⟩
 ·cases a
 ·rw[xk,U2]at a;rw[xk];rcases AB.1 a with a|a
  ·exact⟨x,BH _ a,rfl,rfl⟩
  ·rw[BQ]at a;subst a;exact⟨b,by simp,rfl,rfl⟩
def wX(low:UInt64):∀(r:List Kv){ch:List UInt8->List Lk}{k:List UInt8}{x:Lk},x∈Ars low r ch k->∃b∈ch k,b.off=x.off/\b.rc.stamp=x.rc.stamp
 |[],_,_,x,h=>⟨x,h,rfl,rfl⟩
 |g::r,ch,k,x,h=>by
  obtain⟨b,a,f1,f2⟩:=wX low r h;by_cases c:k=g.1
  ·subst c;rw[QP]at a;obtain⟨i,f,d,e⟩:=Ak1 _ a;exact⟨i,List.mem_of_mem_take f,d.trans f1,e.trans f2⟩
  ·rw[Il c]at a;exact⟨b,a,f1,f2⟩
def Abh(low:UInt64):∀(r:List Kv){s:St}{items:List Kv}{ch:List UInt8->List Lk}(_:CU L s items ch),r.Pairwise (λq b=>q.1≠b.1)->(∀a∈r,a∈items)->
 kW low ⟨.up (-1),s⟩ (r.map λa=>(pairs a.1,a.2))/\∀d:Int,∃s2 k z,PT low ⟨.up (-1),s⟩ (r.map λa=>(pairs a.1,a.2)) d=(⟨.up (-1),s2⟩,z,0)/\CU L s2 k (Ars low r ch)/\NQ s s2
 |[],s,items,ch,h,_,_=>⟨trivial,λd=>⟨s,items,d,rfl,h,NQ.refl s⟩⟩
 |a::r,s,items,ch,h,w,i=>by
  obtain⟨B,C⟩:=List.pairwise_cons.1 w;have g:=i a (Bo ..);obtain⟨l,n⟩:=Arr h.ix g;obtain⟨s2,k,G,e,c⟩:=Ago h low n (v:=a.2) (by rw[l];exact g);rw[l]at c;obtain⟨E,m⟩:=Abh low r c.ok C (λx j=>by
   rcases c.its with⟨_,f⟩|⟨_,f⟩
   ·rw[f];exact i x (Bz _ j)
   ·exact(f x).2 ⟨i x (Bz _ j),λe=>B x j e.symm⟩)
  rw[c.chs]at m;have o:=(h.chain a g).1;have F:=fG h.ix.ok o;refine⟨?_,λd=>?_⟩
  ·rw[BM];refine⟨⟨-1,rfl⟩,n,⟨_,o.listed h.ix.ok,O1⟩,λ_=>?_⟩;rw[e];exact E
  ·rw[BM,PT,e,ku Θ];obtain⟨D,p,A,t,u,y⟩:=m (d+(((ch (Ci (pairs a.1))).length:Int) -(LY (ch (Ci (pairs a.1))) low.toNat:Nat)));exact⟨D,p,A,t,u,c.Afv.trans y⟩
end
structure Io(L:Nat)(E:Eg):Prop where
 up:E.q.pw=.up (-1)
 sets:NR E.t
 slot:E.slot.toNat<=60000
 off:E.on=iD->∃items ch,CU L E.q.s items ch/\(∀k,∀x∈ch k,x.rc.stamp.toNat<=E.slot.toNat)/\E.q.s.ws 8=E.slot
 job:∀o,E.on=iC o->o.id<8/\E.t.wt.ops o.id=true/\E.t.sets o.id=o.set/\E.slot.toNat<60000/\o.ps.length<=o.set.length/\
  ∃s0 items ch,Akh (-1) L s0 items ch (E.slot+1) o.set (λ_ _ _=>True) E.q o.ps/\(∀k,∀x∈ch k,x.rc.stamp.toNat<=E.slot.toNat)/\s0.ws 8=E.slot
def Apg{L:Nat}{a:St}{items:List Kv}{ch:List UInt8->List Lk}{stamp:UInt64}:Akg L a items ch stamp (λ_ _ _=>True):=⟨λ_ _ _ _=>trivial,λ_ _ _ _ _ _ _ _ _ _ _=>trivial,λ_ _ _ _=>trivial⟩
def kY{v:UInt64}(h:v.toNat<60000):(v+1).toNat=v.toNat+1:=by
 rw[UInt64.toNat_add];show(v.toNat+1)%18446744073709551616=_;omega
section
variable{L:Nat}{E:Eg}
def Io.store(h:Io L E):∃items ch,CU L E.q.s items ch/\E.q.s.ws 8=E.slot:=by
 cases b:E.on with
 |none=>
  obtain⟨items,ch,g,_,i⟩:=h.off b;exact⟨items,ch,g,i⟩
 |some o=>
  obtain⟨_,_,_,_,_,s0,items,ch,k,_,j⟩:=h.job o b;rcases k with⟨_,_,_,n,e,_,l,_⟩|⟨f,_⟩
  ·obtain⟨⟨m,d,_,c,_⟩,a,_⟩:=l;rw[e]at c a;exact⟨m,d,c,(a.2 8 U U).trans j⟩
  ·exact absurd rfl f
def Io.read(h:Io L E):pK E.q.s:=by
 obtain⟨_,_,a,_⟩:=h.store;exact a.read
def Io.ws8(h:Io L E):(E.q.s.ws 8).toNat<=E.slot.toNat:=by
 obtain⟨_,_,_,a⟩:=h.store;rw[a];exact Ae _
def Io.on(h:Io L E):∀o,E.on=iC o->Arj L E.q E.t o:=λo f=>by
 obtain⟨a,c,d,_,e,_⟩:=h.job o f;obtain⟨s1,s2,b⟩:=h.sets o.id a;rw[d]at s1 s2 b;obtain⟨items,_,g,_⟩:=h.store;exact⟨a,c,e,s1,b,λ_ _=>⟨_,items,g.ix⟩⟩
def Io.vac(h:Io L E)(low:UInt64):∃items g,DW E.q.s=iC (items,g)/\items.length<=100000/\kW low E.q items:=by
 obtain⟨items,ch,c,_⟩:=h.store;obtain⟨g,i,_⟩:=WR c.ix;have l:=fH c;have j:items.Pairwise (λa b=>a.1≠b.1):=c.ix.up.imp λ{a b}f d=>by rw[d,FN]at f;cases f
 have e:=(Abh low items c j (λ_ h=>h)).1;have d:E.q=⟨.up (-1),E.q.s⟩:=by
  have:=h.up;cases k:E.q;rw[k]at this;simp only at this;subst this;rfl
 rw[<-d]at e;exact⟨_,_,i,by rw[CZ];omega,e⟩
def Xc{t:Tb}(h:NR t){i:Nat}{l:List Wr}(c:l.length<=16/\WA l/\∀f∈l,Du f=true){a:Tb}(e:a.sets=MS t.sets i l):NR a:=λd b=>by
 rw[e];unfold MS;split
 ·exact c
 ·exact h d b
def pM:([]:List Wr).length<=16/\WA []/\∀a∈([]:List Wr),Du a=true:=⟨BA _,List.Pairwise.nil,λ_ h=>nomatch h⟩
def Io.tab(h:Io L E){a:Tb}(k:NR a)(j:∀o,E.on=iC o->a.wt.ops o.id=E.t.wt.ops o.id/\a.sets o.id=E.t.sets o.id):Io L {E with t:=a}:=
 ⟨h.up,k,h.slot,h.off,λo b=>by
  obtain⟨e,f,g,i⟩:=h.job o b;obtain⟨c,d⟩:=j o b;exact⟨e,by show a.wt.ops o.id=true;rw[c,f],by show a.sets o.id=_;rw[d,g],i⟩⟩
def Agq(h:Io L E):Io L (Na E).1:=by
 unfold Na;cases f:PH E.t.wt with
 |none=>exact h
 |some a=>
  refine h.tab (Xc h.sets pM rfl) λc g=>?_
  have e:E.t.wt.ops a=false:=by
   have:=List.find?_some (show(Ep 8).find? (λa=> !E.t.wt.ops a)=iC a from f);simpa using this
  have b:c.id≠a:=λd=>by
   have:=(h.job c g).2.1;rw[d,e]at this;cases this
  exact⟨ku b,ku b⟩
def Ac7(id:Int)(a:PR E id=0):EY E.t.wt id=true/\∀b,E.on=iC b->b.id≠id.toNat:=by
 unfold PR at a;split at a
 ·rename_i c;refine⟨c,λb e d=>?_⟩;rw[e]at a;obtain⟨f,rfl,_⟩:=Oe c;simp only at a;rw[jM (by rw[d];rfl)]at a;cases a
 ·cases a
def kZ(h:Io L E)(id:Int)(y:Wr):Io L (Jy E id y).1:=by
 unfold Jy;split
 ·exact h
 ·rename_i d;obtain⟨b,c⟩:=Ac7 id (Decidable.not_not.1 d);obtain⟨a,rfl,e,_⟩:=Oe b;obtain⟨s1,s2,i⟩:=h.sets a e;show Io L {E with t:=wrT E.t a y};unfold wrT;split
  ·refine h.tab (Xc h.sets ⟨Ω (Ais (E.t.sets a) y),Amr s2 y,zu i y⟩ rfl) λg f=>⟨rfl,ku (c g f)⟩
  ·exact h
def pO(h:Io L E)(i:Nat)(hi:∀a,E.on=iC a->a.id≠i):Io L {E with t:=Oh E.t i}:=
 h.tab (Xc h.sets pM rfl) λa b=>⟨ku (hi a b),ku (hi a b)⟩
def Agr(h:Io L E)(id:Int):Io L (Qg E id).1:=by
 unfold Qg;split
 ·exact h
 ·rename_i a;exact pO h _ (Ac7 id (Decidable.not_not.1 a)).2
def Abi(h:Io L E)(id:Int):Io L (LH E id).1:=by
 unfold LH;split
 ·exact h
 rename_i j;obtain⟨p,rfl,l,m⟩:=Oe (t:=E.t.wt) (id:=id) (by simpa using j);split
 ·exact h
 rename_i e;have f:E.on=none:=by
  cases a:E.on with
  |none=>rfl
  |some b=>rw[a]at e;exact absurd rfl e
 have d:∀c:Nat,∀b,E.on=iC b->b.id≠c:=λc b a=>by rw[f]at a;cases a
 split
 ·exact pO h _ (d _)
 split
 ·exact pO h _ (d _)
 split
 ·exact pO h _ (d _)
 rename_i v;split
 ·exact h
 obtain⟨items,ch,n,i,k⟩:=h.off f;have g:E.slot.toNat<60000:=O1;refine⟨h.up,h.sets,h.slot,λa=>(by cases a),λb a=>?_⟩;cases a;refine⟨l,m,rfl,g,BA _,E.q.s,items,ch,.inl ⟨-1,λ_=>rfl,h.up,⟨E.q.s,[],jw,0⟩,rfl,rfl,Afx n _ _ (λc x o=>?_),λp h=>nomatch h⟩,i,k⟩;have r:x.rc.stamp.toNat<=E.slot.toNat:=i c x o;have u:(E.slot+1).toNat=E.slot.toNat+1:=kY g;show x.rc.stamp.toNat<(E.slot+1).toNat;omega
def Ak2(h:Io L E):Io L (LJ E).1:=by
 cases l:E.on with
 |none=>unfold LJ;rw[l];exact h
 |some a=>
  obtain⟨F,V,G,H,p,u,items,ch,z,n,v⟩:=h.job a l;obtain⟨I,e,f⟩:=h.sets a.id F;rw[G]at I e f;have Y:=kY H;have D:∀r,∀x∈ch r,x.rc.stamp.toNat<(E.slot+1).toNat:=λr x S=>Ω (n r x S)
  have B:(E.slot+1).toNat≠0:=O1;have m:∀(c:Int)(q:Ms),Upd (-1) L u (λ_ _ _=>True) q (Uy L u items ch (E.slot+1) c)->
   Io L {q:=q,t:=if c=0 then df (Oh E.t a.id) a.set (E.slot+1)else Oh E.t a.id,slot:=if c=0 then E.slot+1 else E.slot,on:=iD}:=λc q R=>by
   have C:NR (Oh E.t a.id):=Xc h.sets pM rfl;rcases R with⟨lf,j,o,P⟩|⟨i,_⟩
   ·refine⟨by rw[<-j rfl];exact o,?_,?_,λ_=>?_,λa d=>(by cases d)⟩
    ·show NR (if c=0 then _ else _);split
     ·exact C
     ·exact C
    ·show(if c=0 then E.slot+1 else E.slot).toNat<=60000;split<;>omega
    ·rcases P with⟨rfl,g,K⟩|⟨rfl,g,_,_,T,J,M,N⟩
     ·exact⟨items,ch,g,n,(K.2 8 U U).trans v⟩
     ·exact⟨T,J,M,N,g⟩
   ·exact absurd rfl i
  have w:=λq=>RZ (hpl:=p) (On.fB p) On.fC q
  unfold LJ;rw[l];simp only;unfold NV;by_cases k:a.ps.length<a.set.length
  ·rw[Ah k];simp only;obtain⟨W,X⟩:=Aa5 z Apg k f e B D (y:=a.set[a.ps.length]) rfl;by_cases b:(writeM E.q (E.slot+1) a.set[a.ps.length]).2.2.2=0
   ·rw[jM b];have A:=W b;refine⟨?_,h.sets,h.slot,λd=>(by cases d),λZ d=>?_⟩
    ·rcases A with⟨lf,j,o,_⟩|⟨i,_⟩
     ·show _=_;rw[<-j rfl];exact o
     ·exact absurd rfl i
    ·cases d
     refine⟨F,V,G,H,?_,u,items,ch,A,n,v⟩;show(a.ps++_).length<=_;rw[AP];exact k
   ·rw[ku b];have:=X b p;rw[w]at this;exact m _ _ this
  ·rw[List.getElem?_eq_none O1];simp only;have Q:a.ps.length=a.set.length:=O1;have:=Agd z Apg Q f e B D;unfold iE at this;by_cases b:(JE E.q 3 (Dt E.q.s.ws 8 (E.slot+1))).2=0
   ·rw[jM b]at this⊢;rw[b]at this;exact m 0 _ this
   ·rw[ku b]at this⊢;rw[w]at this;exact m _ _ this
def Aok(h:Io L E):Io L (Zc E).1:=by
 unfold Zc;split
 ·exact h
 rename_i g;have j:E.on=none:=by
  cases c:E.on with
  |none=>rfl
  |some k=>rw[c]at g;exact absurd rfl g
 obtain⟨items,ch,e,v,p⟩:=h.off j;obtain⟨B,o,_⟩:=WR e.ix;rw[o];simp only;have r:items.Pairwise (λa b=>a.1≠b.1):=e.ix.up.imp λ{a b}i c=>by rw[c,FN]at i;cases i
 have c:E.q=⟨.up (-1),E.q.s⟩:=by
  have:=h.up;cases u:E.q;rw[u]at this;simp only at this;subst this;rfl
 obtain⟨s2,l,C,f,m,n⟩:=(Abh (Ii E.t.wt E.slot) items e r (λ_ h=>h)).2 0;rw[<-c]at f;rw[f];refine⟨rfl,h.sets,h.slot,λ_=>⟨l,_,m,λz x w=>?_,(n.2 8 U U).trans p⟩,λk d=>?_⟩
 ·obtain⟨A,y,_,f2⟩:=wX _ _ w;rw[<-f2];exact v z A y
 ·have d:E.on=iC k:=d;rw[j]at d;cases d
end
def doP(E:Eg)(s:Sp):Eg×An:=match s.what with
 |0=>((Na E).1,⟨⟨#[]⟩,[],(Na E).2.1,jw,(Na E).2.2⟩)
 |1=>((Jy E s.id ⟨s.key,s.text,jw⟩).1,⟨⟨#[]⟩,[],0,jw,(Jy E s.id ⟨s.key,s.text,jw⟩).2⟩)
 |2=>((Jy E s.id ⟨s.key,⟨#[]⟩,true⟩).1,⟨⟨#[]⟩,[],0,jw,(Jy E s.id ⟨s.key,⟨#[]⟩,true⟩).2⟩)
 |3=>(E,⟨(wV E s.id s.key).1,[],0,jw,(wV E s.id s.key).2⟩)
 |4=>(E,⟨⟨#[]⟩,(Pm E s.id s.key s.text).1,0,jw,(Pm E s.id s.key s.text).2⟩)
 |5=>((LH E s.id).1,⟨⟨#[]⟩,[],0,jw,(LH E s.id).2⟩)
 |6=>((LJ E).1,⟨⟨#[]⟩,[],(LJ E).2.1,(LJ E).2.2.1,(LJ E).2.2.2⟩)
 |7=>((Qg E s.id).1,⟨⟨#[]⟩,[],0,jw,(Qg E s.id).2⟩)
 |8=>((Zc E).1,⟨⟨#[]⟩,[],(Zc E).2.1,jw,(Zc E).2.2⟩)
 |_=>(E,⟨⟨#[]⟩,[],0,jw,13⟩)
def Aru{L:Nat}{E:Eg}(h:Io L E)(s:Sp):Io L (doP E s).1:=by
 unfold doP;split
 ·exact Agq h
 ·exact kZ h _ _
 ·exact kZ h _ _
 ·exact h
 ·exact h
 ·exact Abi h _
 ·exact Ak2 h
 ·exact Agr h _
 ·exact Aok h
 ·exact h
def AnR(w:jD)(X:Nat->Prop)(a:Av)(x:An):Prop:=
 a.t=x.text/\a.n=x.n/\a.d=x.done/\a.e=x.e/\∃b c,a.ps=fD b x.pairs.length c/\PrR w b x.pairs/\(0<x.pairs.length->∀p,b=iC p->X p.block)
def Rd.touch'{w w':jD}{F:Nat->Prop}{A:Option Addr}{n:Nat}{xs:List jL}(h:Rd w A n xs)(t:Touch F w w')(hF:0<n->∀a,A=iC a->¬F a.block):Rd w' A n xs:=by
 by_cases b:0<n
 ·exact h.touch t (hF b)
 ·exact⟨h.1,λh=>absurd h b⟩
def AnR.touch{w w':jD}{X d F:Nat->Prop}{a:Av}{x:An}(h:AnR w X a x)(t:Touch F w w')(hF:∀b,X b->¬F b)(q:∀b,X b->d b):AnR w' d a x:=by
 obtain⟨j,k,l,m,g,i,n,o,e⟩:=h;exact⟨j,k,l,m,g,i,n,Rd.touch' o t (λf p c=>hF _ (e O1 p c)),λf p c=>q _ (e f p c)⟩
def AnR.no{w:jD}{X:Nat->Prop}(t:ByteArray)(n:Int)(d:Bool)(e:Int):AnR w X ⟨t,fD iD 0 0,n,d,e⟩ ⟨t,[],n,d,e⟩:=
 ⟨rfl,rfl,rfl,rfl,iD,0,rfl,PrR.nil w,λh=>absurd h Θ⟩
section
variable{w:jD}{g d p x tt bk L:Nat}{E:Eg}{X:Nat->Prop}
def Ya(g d p x tt bk L:Nat)(o:Eg)(a:An)(f:jD)(X:Nat->Prop)(e:Ending)(w':jD):Prop:=
 ∃(t:ByteArray)(i:Option Addr)(n m:Nat)(l:Int)(j:Bool)(k:Int),e=gY (qj t (fD i n m) l j k)/\
  ∃c:Nat->Prop,(∀b,X b->c b)/\(∀b,c b->X b\/f.heap.size<=b)/\(EgM g d p x tt bk L o w' c/\AnR w' (λb=>c b/\f.heap.size<=b/\b<w'.heap.size) ⟨t,fD i n m,l,j,k⟩ a)/\Touch (Outs X) f w'
def Ya.of{b:Eg}{t:ByteArray}{n:Int}{a:Bool}{er:Int}{e:Ending}{w':jD}(h:e=gY (qj t (fD iD 0 0) n a er)/\EgM g d p x tt bk L b w' X/\Touch (Outs X) w w'):Ya g d p x tt bk L b ⟨t,[],n,a,er⟩ w X e w':=
 ⟨t,iD,0,0,n,a,er,h.1,X,λ_ h=>h,λ_ h=>.inl h,⟨h.2.1,AnR.no ..⟩,h.2.2⟩
def Ak3{f:Nat}(ab:DoF f)(D:EgM g d p x tt bk L E w X)(k:Io L E)(id:Nat)(key text:ByteArray):
 Calls prog f #[ptr0 g,.agg #[fP gZ 4,fP gZ (id:Int),fQ key,fQ text]] w (Ya g d p x tt bk L E ⟨⟨#[]⟩,(Pm E id key text).1,0,jw,(Pm E id key text).2⟩ w X):=by
 obtain⟨B,v⟩:=ε ((Pm E id key text).1);refine(Ac5 ab .s (R:=λz e j=>z.er=(Pm E id key text).2/\e.heap.size=w.heap.size+3/\η e j/\η w e/\j.ownsRow e.heap.size 80 2 (fD z.P z.m z.c) B.length (Gw B)) (G:=λ_=>False) (λ_ _ h=>h) (λe u ac=>?_)).mono ?_
 ·have i:EgM g d p x tt bk L E e X:=EgM.frames _ _ _ _ D (Touch.of_below u) (λc a=>.inl a);refine(Arq k.up k.sets k.read id key text i).mono ?_;rintro J w'⟨aq,rfl,o,_,q⟩;obtain⟨l,r,rfl,_,_⟩:=own_rowk o;exact⟨⟨0,_,⟨#[]⟩,jw,l,_,r⟩,rfl,⟨rfl,ac.symm,q,u,by rw[v];exact o⟩,Touch.of_below q⟩
 ·rintro J w'⟨⟨_,ah,_,_,l,ao,r⟩,rfl,e,j,_,am,⟨I,_,q,u,o⟩,t⟩;simp only at I o;subst I;obtain⟨n,i⟩:∃n:Nat->Prop,n=λc=>X c\/(e.heap.size<=c/\c<j.heap.size):=⟨_,rfl⟩
  have t1:Touch (λ_=>False) w j:=(Touch.of_below u).trans (Touch.of_below (F:=λ_=>False) q) (λ_ h=>.inl h);have an:=q.size;have K:EgM g d p x tt bk L E j (λc=>n c\/DoN w.heap.size c):=EgM.frames _ _ _ _ D (t1.mono (λ_ h=>h.elim)) (λc a=>by
   rw[i]at a;rcases a with(a|a)|a
   ·exact .inl a
   ·exact .inr ⟨O1,a.2⟩
   ·exact .inr ⟨a.1,Ω a.2⟩)
  have M:EgM g d p x tt bk L E w' n:=EgM.frames _ _ _ _ K (t.mono (λc h=>.inr h)) (λc a=>.inl (.inl a));obtain⟨ad,ae,S,_,H,hF⟩:=pJ (F:=λc=>c<e.heap.size) o (λ_ h=>h);injection S with T U V
  subst T U V;refine⟨⟨#[]⟩,l,_,r,0,jw,_,rfl,n,λc a=>by rw[i];exact .inl a,λc a=>?_,⟨M,rfl,rfl,rfl,rfl,l,r,by rw[<-v],?_,λy c A=>?_⟩,?_⟩
  ·rw[i]at a;exact a.imp (λh=>h) (λh=>O1)
  ·show Rd w' l _ _;rw[<-v];refine Rd.touch' H t (λy C Q aa=>hF y C Q ?_);have:=aa.2;show C.block<_;omega
  ·rw[i];have y:0<B.length:=by rw[v];exact y
   obtain⟨b,ap,N,Z,_⟩:=H.2 O1;have W:¬c.block<e.heap.size:=hF O1 c A;rw[N]at A;cases A;have Y:e.heap.size<=b:=Nat.le_of_not_lt W;have al:=t.size;exact⟨.inr ⟨Y,Z⟩,(by omega:w.heap.size<=b),(by omega:b<w'.heap.size)⟩
  ·exact(t1.mono (λ_ h=>h.elim)).trans t (λc h=>.inr h.1)
def doE{f:Nat}(m:DoF f)(l:EgM g d p x tt bk L E w X)(k:Io L E)(s:Sp)(r:s.key.size<=4294967296)(z:s.text.size<=4294967296):
 Calls prog f #[ptr0 g,spV s] w (Ya g d p x tt bk L (doP E s).1 (doP E s).2 w X):=by
 obtain⟨n,id,q,u⟩:=s;unfold spV doP;simp only at r z⊢;have e:∀A,Frames (EgM g d p x tt bk L A):=λ_=>EgM.frames
 split
 ·exact(Ij (e _) (e _) Ac6 l (λi j=>MZ m .b ⟨_,_,⟨#[]⟩,jw,iD,0,0⟩ i j)).mono λo w' h=>Ya.of h
 ·exact(Ij (e _) (e _) (Ape k.sets id q u r z) l (λi j=>MZ m .p ⟨0,_,⟨#[]⟩,jw,iD,0,0⟩ i j)).mono λo w' h=>Ya.of h
 ·exact(Ij (e _) (e _) (Avk k.sets id q r) l (λi j=>MZ m .d ⟨0,_,⟨#[]⟩,jw,iD,0,0⟩ i j)).mono λo w' h=>Ya.of h
 ·exact(Ij (e _) (e _) (Avs k.up k.sets k.read id q r) l (λi j=>MZ m .t ⟨0,_,_,jw,iD,0,0⟩ i j)).mono λo w' h=>Ya.of h
 ·exact Ak3 m l k id q u
 ·exact(Ij (e _) (e _) (wW k.up k.sets k.ws8 id) l (λi j=>MZ m .c ⟨0,_,⟨#[]⟩,jw,iD,0,0⟩ i j)).mono λo w' h=>Ya.of h
 ·exact(Ij (e _) (e _) (Abe k.on) l (λi j=>MZ m .w ⟨_,_,⟨#[]⟩,_,iD,0,0⟩ i j)).mono λo w' h=>Ya.of h
 ·exact(Ij (e _) (e _) (Aof id) l (λi j=>MZ m .a ⟨0,_,⟨#[]⟩,jw,iD,0,0⟩ i j)).mono λo w' h=>Ya.of h
 ·exact(Ij (e _) (e _) (Avt k.up (k.vac _)) l (λi j=>MZ m .v ⟨_,_,⟨#[]⟩,jw,iD,0,0⟩ i j)).mono λo w' h=>Ya.of h
 ·rename_i B C D F G H I J K;refine(Ao8 m g (n:Int) (.inr ?_) id q u w).mono ?_
  ·have N:n≠0:=B;have O1:n≠1:=C;have P:n≠2:=D;have Q:n≠3:=F;have R:n≠4:=G;have S:n≠5:=H;have T:n≠6:=I;have U:n≠7:=J;have V:n≠8:=K;omega
  ·rintro o w'⟨rfl,y⟩;exact Ya.of ⟨rfl,EgM.frames _ _ _ _ l (Touch.of_below y) (λM h=>.inl h),Touch.of_below y⟩
end
def stP(E:Eg)(l:List Sp):Nat->Eg
 |0=>E
 |a+1=>match l[a]? with
  |some s=>(doP (stP E l a) s).1
  |none=>stP E l a
def ansP(E:Eg)(l:List Sp)(k:Nat):An:=match l[k]? with
 |some s=>(doP (stP E l k) s).2
 |none=>⟨⟨#[]⟩,[],0,jw,0⟩
def stP_ok{L:Nat}{E:Eg}(h:Io L E)(l:List Sp):∀a,Io L (stP E l a)
 |0=>h
 |a+1=>by
  unfold stP;split
  ·exact Aru (stP_ok h l a) _
  ·exact stP_ok h l a
section
variable{w:jD}{g d p x tt bk L:Nat}{E:Eg}{X:Nat->Prop}
def Abj(g d p x tt bk L:Nat)(E:Eg)(l:List Sp)(B:Nat)(e:List Av)(b:jD)(X:Nat->Prop):Prop:=
 ∃c:Nat->Prop,B<=b.heap.size/\(∀a,X a->a<b.heap.size)/\(∀a,c a->¬X a/\a<b.heap.size/\B<=a)/\EgM g d p x tt bk L (stP E l e.length) b (λa=>X a\/c a)/\∀f(h:f<e.length),AnR b c e[f] (ansP E l f)
def Abj.frames(l:List Sp)(C:Nat)(j:List Av):Frames (Abj g d p x tt bk L E l C j):=by
 rintro u v X w⟨i,k,m,c,n,o⟩e f;have r:=e.size;refine⟨i,Bq k r,λb a=>?_,λb a=>⟨λs=>?_,Ω ((c b a).2.1),(c b a).2.2⟩,EgM.frames _ _ _ _ n (e.mono (λb h=>.inl h)) (λb a=>?_),λt q=>(o t q).touch e (λb a=>(c b a).1) (λ_ h=>h)⟩
 ·rcases f b a with h|h
  ·have:=m b h;omega
  ·exact h.2
 ·rcases f b s with h|h
  ·exact(c b a).1 h
  ·have:=(c b a).2.1;omega
 ·rcases a with a|a
  ·exact(f b a).imp .inl (λh=>h)
  ·exact .inl (.inr a)
def Aol(k:Io L E){l:List Sp}(T:∀s∈l,s.key.size<=4294967296/\s.text.size<=4294967296)(C:Nat)(c:List Av)(e:jD)(X:Nat->Prop)(G:c.length<l.length)(Q:Abj g d p x tt bk L E l C c e X):
 Calls prog 13 #[ptr0 g,spV l[c.length]] e λy w'=>∃(t:ByteArray)(i:Option Addr)(r q:Nat)(o:Int)(j:Bool)(m:Int),y=gY (qj t (fD i r q) o j m)/\
  ∃f:Nat->Prop,(∀a,X a->f a)/\(∀a,f a->X a\/e.heap.size<=a)/\Abj g d p x tt bk L E l C (c++[⟨t,fD i r q,o,j,m⟩]) w' f/\Touch (Outs X) e w':=by
 obtain⟨I,z,A,u,M,N⟩:=Q;have H:=T _ (Cm G);refine(doE (.inl rfl) M (stP_ok k l c.length) l[c.length] H.1 H.2).mono ?_;rintro y w'⟨t,i,r,q,o,j,m,rfl,f,B,V,⟨P,O1⟩,v⟩;have U:=v.size;have D:l[c.length]?=iC l[c.length]:=Ah G;have K:stP E l (c.length+1)=(doP (stP E l c.length) l[c.length]).1:=by rw[stP,D]
 have J:ansP E l c.length=(doP (stP E l c.length) l[c.length]).2:=by rw[ansP,D]
 refine⟨t,i,r,q,o,j,m,rfl,X,λ_ h=>h,λ_ h=>.inl h,⟨λa=>f a/\(I a\/e.heap.size<=a)/\a<w'.heap.size,Bq z U,λa b=>?_,λa b=>⟨λn=>?_,b.2.2,b.2.1.elim (λh=>(u a h).2.2) (λh=>Bq z h)⟩,?_,λw R=>?_⟩,v.mono (λa h n=>h (n.imp .inl (λh=>h)))⟩
 ·have:=A a b;omega
 ·rcases b.2.1 with h|h
  ·exact(u a h).1 n
  ·have:=A a n;omega
 ·rw[AP,List.length_singleton,K];refine EgM.frames _ _ _ _ P (Touch.refl _ _) (λa b=>.inl ?_);rcases b with b|b
  ·exact B a (.inl b)
  ·exact b.1
 ·by_cases F:w<c.length
  ·rw[List.getElem_append_left F];exact(N w F).touch v (λa b h=>h (.inl (.inr b))) (λa b=>⟨B a (.inr b),.inl b,Ω ((u a b).2.1)⟩)
  ·have S:w=c.length:=by simp at R;omega
   subst S;rw[List.getElem_append_right (Ae _)];simp only[Nat.sub_self,List.getElem_singleton];rw[J];exact O1.touch (Touch.refl (λ_=>False) _) (λ_ _ h=>h) (λa b=>⟨b.1,.inr b.2.1,b.2.2⟩)
def scrRunE(n:EgM g d p x tt bk L E w X)(k:Io L E){l:List Sp}(q:∀s∈l,s.key.size<=4294967296/\s.text.size<=4294967296)(r:l.length<=400){A:Option Addr}(c:Nat)(h:SpR w A l)(o:∀a,X a->a<w.heap.size)(m:∀i,A=iC i->X i.block):
 Calls prog 7 #[ptr0 g,fD A l.length c] w λj w'=>∃(f:jL)(e:Nat->Prop)(b:List Av),j=gY f/\b.length=l.length/\w'.ownsRow w.heap.size 38 5 f b.length (Zb b)/\
  Abj g d p x tt bk L E l w.heap.size b w' e/\(∀a,X a->e a)/\(∀a,e a->X a\/w.heap.size<=a)/\(∀a,f.ownBlock=iC a->e a)/\Touch (Outs X) w w':=
 Aob g l A c w r h (Abj g d p x tt bk L E l w.heap.size) (λb=>Abj.frames l _ b) (Aol k q _)
  ⟨λ_=>False,Ae _,o,λ_ h=>h.elim,EgM.frames _ _ _ _ n (Touch.refl _ _) (λa t=>.inl (t.resolve_right (λh=>h))),λ_ h=>absurd h Θ⟩ m
end
def eg0(sh:Sh):Eg:=⟨⟨.up (-1),st0 sh⟩,tb0,0,iD⟩
def BK.begunM{w:jD}{g d p x tt bk n L B:Nat}{sh:Sh}{F X:Nat->Prop}(h:uS w g d p x tt bk L (st0 sh) (bk0 n) tb0 F (λk=>k=g) 0 .nilIface 0 (fD iD 0 0) 0)(f:Apd B g x tt bk n F)(l:∀a,X a->a<B/\a≠0/\a≠1):
 EgM g d p x tt bk L (eg0 sh) w X:=by
 have e:∀a,B<=a->¬X a:=λa m c=>Ω ((l a c).1)
 have q:B<=w.heap.size:=Ψ h.box.lt f.g;refine⟨bk0 n,F,λk=>k=g,.nilIface,0,fD iD 0 0,0,⟨h.ix,?_,.inl rfl,λa m=>m.elim (λo=>by rw[o];exact h.box.lt) (λc=>Ω ((l a c).1)),h.box,h.fg,h.g1,h.g2,h.g3,h.g4,h.x1,h.x2,h.c1,h.c2,h.c3⟩,⟨e g f.g,e x f.x,λa m=>e a (f.f a m),λc=>(l _ c).2.1 rfl,λc=>(l _ c).2.2 rfl⟩,rfl,rfl,rfl,rfl⟩;refine⟨h.tb.box,h.tb.book,h.tb.map,h.tb.wt,λ_ _=>FI.nil,h.tb.pile,?_,?_,?_,h.tb.ne1,h.tb.ne2,h.tb.ne3⟩
 ·exact λj=>j.elim (λb=>h.tb.fb (.inl b)) (λb=>b.elim (λi=>h.tb.fb (.inr i)) (e bk f.bk))
 ·exact λj=>j.elim (λb=>h.tb.fn (.inl b)) (λb=>b.elim (λi=>h.tb.fn (.inr i)) (e n f.nt))
 ·exact λj=>j.elim (λb=>h.tb.ft (.inl b)) (λb=>b.elim (λi=>h.tb.ft (.inr i)) (e tt f.tt))
def eg0_ok{L:Nat}{sh:Sh}(a:L<=1024)(c:shapeOf L=iC sh):Io L (eg0 sh):=
 ⟨rfl,λ_ _=>pM,BA _,λ_=>⟨[],λ_=>[],Aq8 a c,(λ_ _ h=>(nomatch h)),by
  show(st0 sh).ws 8=0;exact Lt sh 8 U⟩,λd b=>by cases b⟩
def shA:Sh:={lines:=100,BO:=6,table:=128,data:=192}
def lA:List Sp:=[⟨0,0,⟨#[]⟩,⟨#[]⟩⟩,⟨1,0,⟨#[97]⟩,⟨#[117,117]⟩⟩,⟨5,0,⟨#[]⟩,⟨#[]⟩⟩,⟨6,0,⟨#[]⟩,⟨#[]⟩⟩,⟨6,0,⟨#[]⟩,⟨#[]⟩⟩]
def Avu:(stP (eg0 shA) lA 5).slot=1:=by decide+kernel
def Ags(y:Wr):∀a:List Pr,(YH y a).length<=a.length
 |[]=>Ae _
 |p::a=>by
  rw[YH];split
  ·exact Nat.le_succ _
  ·exact Ae _
def lh:∀(s:List Wr)(l:List Pr),(JR l s).length<=l.length+s.length
 |[],l=>by simp[JR]
 |a::s,l=>by
  have b:=lh s (YH a (l.dropWhile (Ja a)));have c:(Xa a).length<=1:=by unfold Xa;split<;>simp
  have d:=Ags a (l.dropWhile (Ja a));have e:(l.takeWhile (Ja a)).length+(l.dropWhile (Ja a)).length=l.length:=by
   rw[<-AP,List.takeWhile_append_dropWhile]
  rw[JR,AP,AP,Bv];omega
def lq(s:St)(b:Nat)(c a:ByteArray):∀(items:List (List UInt8×UInt64)),(readA s b c a items).length<=items.length
 |[]=>Ae _
 |e::f=>by
  have d:=lq s b c a f;have g:(PS s b c a e).length<=1:=by
   unfold PS;split
   ·split<;>simp
   ·simp
  unfold readA at d⊢;rw[BM,List.flatten_cons,AP,Bv];omega
def Ak4{L:Nat}{E:Eg}(h:Io L E)(id:Int)(c b:ByteArray):(Pm E id c b).1.length<=100000:=by
 unfold Pm;split
 ·exact BA _
 ·rename_i g;obtain⟨a,rfl,j,_⟩:=Oe (t:=E.t.wt) (id:=id) (by simpa using g);obtain⟨items,ch,e,_⟩:=h.store;obtain⟨o,f,_⟩:=WR e.ix;rw[f];simp only;have k:=fH e;have l:=(h.sets a j).1;have m:(UD c b (E.t.sets a)).length<=(E.t.sets a).length:=List.length_filter_le ..;unfold wR;have n:=lh (UD c b (E.t.sets a)) (readA E.q.s (E.t.wt.ats a).toNat c b (items.map λd=>(pairs d.1,d.2)));have i:=lq E.q.s (E.t.wt.ats a).toNat c b (items.map λd=>(pairs d.1,d.2));rw[CZ]at i;show(JR (readA E.q.s (E.t.wt.ats a).toNat c b _) (UD c b (E.t.sets a))).length<=_;omega
def doP_len{L:Nat}{E:Eg}(h:Io L E)(s:Sp):(doP E s).2.pairs.length<=100000:=by
 unfold doP;split
 all_goals first|exact Ak4 h _ _ _|exact BA _
def decP_size(b:List UInt8):∀s∈decP b,s.key.size<=4294967296/\s.text.size<=4294967296:=λs a=>by
 unfold decP OV at a;obtain⟨c,_,rfl⟩:=Dk.1 a;unfold zU stepS keyS textS;constructor
 ·show(XA _ _).toArray.size<=_;rw[Agz,Ai4];omega
 ·show(WL _ _).toArray.size<=_;rw[Agz,Ae3];omega
def runs_shape(k:Nat)(h:k<30):∃a,shapeOf (19+16*k)=iC a:=by
 have:∀k:Fin 30,(shapeOf (19+16*k.1)).isSome=true:=by decide+kernel
 exact Option.isSome_iff_exists.1 (this ⟨k,h⟩)
