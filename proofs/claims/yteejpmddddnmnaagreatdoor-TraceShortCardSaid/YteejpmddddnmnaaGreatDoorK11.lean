import Derived.LaidMore
import Derived.Stop.Joined
import Derived.Lib.SmallJoins
import Derived.Test.YteejpmddddnmnaaGreatDoorK10
set_option linter.defProp false
set_option maxHeartbeats 32000000
set_option maxRecDepth 100000
open Go.Lib renaming hid->Ac
open Nat renaming lt_of_lt_of_le->Bc,le_trans->AZ,min_le_right->Uu,min_eq_left->EI,min_eq_right->PD,zero_le->Bd,lt_irrefl->Abz,le_refl->Ae,reduceAdd->Au2,reduceSub->Au3,add_assoc->JD,le_of_eq->IZ,le_succ->Ha,zero_add->Du,min_le_left->lJ
open List renaming length_append->AO,getElem_toArray->Au,getElem_cons_succ->Ak,getElem_cons_zero->Aj,setIfInBounds_toArray->Ah,set_cons_zero->Aq,set_cons_succ->Aw,take_length->I7,take_of_length_le->Dq,take_succ_eq_append_getElem->BH,length_take->Cc,length_singleton->EO,append_nil->EN,size_toArray->Tn,length_cons->Bg,length_nil->CV,push_toArray->Alj,append_toArray->Afz,nil_append->DR,cons_append->BM,append_assoc->Ba,take_take->Rq,getElem?_cons_zero->Af,getElem?_cons_succ->Ai,getElem_mem->BO,take_succ_cons->Jf,zip_append->Aqj,take_append_drop->DY,countP_append->Ahl,length_zip->mf,drop_eq_nil_of_le->NI,drop_eq_getElem_cons->BX,length->Qg,flatten_append->Af0,map_append->CJ,take_left'->Aqk,getElem_take->bC,getElem?_map->CP,getElem?_eq_getElem->Ag,mem_of_mem_take->Qd,getElem_append_left->Na,getElem_append_right->LK,getElem_map->UC,getD_eq_getElem?_getD->Bv
open UInt64 renaming ofNat->Az,toNat_ofNat_of_lt'->Gq,size->JU
open Go.World renaming ownsRow_nil->Ce,cell?_of_block->BQ,putObj_heap_other->Tv
open Int renaming toNat_natCast->BC,natCast_add->rP,natCast_one->Aqp
open Array renaming replicate_succ->Abw,replicate_zero->Abx
namespace Go.Proofs.YteejpmddddnmnaaGreatDoor
open Go.Proofs.Tryz
section
open Go.RowKit
section
variable{w w':World}{F:Nat->Prop}{g tt bk:Nat}{b:Bk}{m:Md}
def A1l(m:Md):Prop:=∀a,m.on=some a->a.1<8/\m.t.wt.ops a.1=true/\1<=a.2/\a.2<=1000
def Aw9(h:Ii w F g tt bk b m)(hF:∀a,F a->a<w)(ah:Jv m.t)(ab:A1l m)(bh:m.T.length<=5000):
 Calls prog 122 #[AB g] w λc w'=>c=.returned (.tuple #[.int .i64 (FT m).2.1,.bool (FT m).2.2.1,.int .i64 (FT m).2.2.2])/\E8 w F g tt bk b (FT m).1 w':=by
 obtain⟨A,X,iv,ch,a8,i,Z,x⟩:=h.box;obtain⟨cb,b9,ca⟩:=l9 h i x;unfold FT;cases ae:m.on with
 |none=>
  have k:=i.c2;rw[ae]at k;have ci:w.cell? (Δ g 2)=some (.bool false):=k;have C:=Ac (h.post m rfl  mZ);clear h i Z x ah ab k hF;go_wp2;go_ret3;exact⟨rfl,C⟩
 |some aM=>
  obtain⟨e,l⟩:=aM;obtain⟨y,J,aG,aI⟩:=ab _ ae;obtain⟨ba,bb⟩:=Z _ ae;simp only at ba bb y J aG aI⊢;subst ba bb;rw[ae]at i;have i:Cm w g 66 [.slice A m.T.length X,AB tt,true,e,l]:=i;obtain⟨⟨v,N,k,P,Q⟩,f0,f1,f2,f3,f4⟩:=i.q5;have cg:IntKind.i64.wrap ((l:Int) -1)=((l-1:Nat):Int):=by rw[show(l:Int) -1=((l-1:Nat):Int)by omega];exact IntWalk.i64_in _ O
  obtain⟨q,r⟩:=ε (w.setCell (Δ g 4) (.int .i64 ((l-1:Nat):Int)));have u:Touch (·=g) w q:=by rw[r];exact(Touch.refl (·=g) w).setCell (p:=Δ g 4) (.inl rfl) _
  have D:Cm q g 66 [.slice A m.T.length X,AB tt,true,e,.int .i64 ((l-1:Nat):Int)]:=by rw[r];exact i.Be 4 _
  have o:Ii q F g tt bk b {m with on:=some (e,l-1)}:=⟨⟨A,X,e,((l-1:Nat):Int),a8,D,λaM c=>by cases c;exact⟨rfl,rfl⟩,x.moved ⟨u.mono (λ_ c=>.inr (.inl c)),λ_=>.inl⟩⟩,h.tab.moved ⟨u.mono (λ_=>.inr),λ_=>.inl⟩,h.fg⟩;have al:Touch (M3 g bk b.nt) w q:=u.mono (λ_=>.inl);by_cases bl:1<l
  ·rw[kX bl];have t1:=dT ((0:Int)<((l-1:Nat):Int));have t2:=dT (0<l-1);have C:Hid (E8 w F g tt bk b {m with on:=some (e,l-1)} q):=Ac ⟨b,rfl,o,al⟩;have au:=Ac r;clear h i Z x ah ab hF u D o al r y J aG aI;go_wp2;go_ret3;rw[<-au.out];exact⟨rfl,C⟩
  ·rw[lg bl,lg (by omega:¬60000<=m.T.length)];obtain rfl:l=1:=O;have b1:((1-1:Nat):Int)=0:=rfl;rw[b1]at r D;obtain⟨bt,b2,b3⟩:=ah e y;have bd:∀a,(F a\/M3 g bk b.nt a)->a<q:=λa s=>by
    rcases s with s|rfl|rfl|rfl
    ·exact Bc (hF a s) u.size
    ·exact o.lt.1
    ·exact o.lt.2.1
    ·exact o.lt.2.2
   obtain⟨a1,ar,W,bR,au,a5,bB⟩:=lQ bd (Vd o.tab y J (by show(m.t.sets e).length<=_;omega)) o al r D (x.moved ⟨u.mono (λ_ c=>.inr (.inl c)),λ_=>.inl⟩:rq q (λa=>F a\/M3 g bk b.nt a) A a8 m.T);obtain⟨set,I⟩:=ε (m.t.sets e);have b8:=Ac I;have ce:set.length<=16:=by rw[I];exact bt
   rw[show({m with on:=some (e,1-1)}:Md).t.sets e=set from I.symm]at ar;rw[<-I];obtain⟨L,aE⟩:=ε m.T.length;have B:=Ac aE;rw[<-aE]at bh v;have bV:=Ac y;have bW:=Ac J;clear h i Z x ah ab hF u D o al r bt b2 b3 bd I y J aG aI aE;go_in;go_wp2_with fail;rw[<-au.out];clear f0 f1 f2 f3 f4 v N k P Q;refine ar.mono ?_;rintro c b6⟨b4,rfl,bo,H⟩;have bE:=Ac H;obtain⟨U,Y,bc,bi,bp⟩:=Us (F:=λa=>F a\/M3 g bk b.nt a) bo (λa s=>a1 a s);have a3:Hid (FP b6 (λa=>F a\/M3 g bk b.nt a) b4 set):=Ac ⟨U,Y,bc,bi,bp⟩;subst bc;have V:=Ac (Apw (bB.below H) X (by rw[<-B.out];exact bh) (λa s=>Bc (a1 a s) H.size) a3 (by omega:set.length<=100000));rw[<-B.out]at V;obtain⟨⟨v,N,k,P,Q⟩,f0,f1,f2,f3,f4⟩:=(a5.out.ξ H).q5;rw[<-B.out]at v;obtain⟨aL,ad⟩:=ε set.length;rw[<-ad]at V;rw[<-ad];have bX:=Ac ad;clear bo H bi bp ad ar;go_wp2_with(refine V.out.mono ?_;rintro c am⟨z,E,a9,rfl,bj,az⟩;obtain⟨bM,ap,b5⟩:=l9 bj (τ bE.out az) az;have ao:=a5.out.ξ ap;have bx:=Ac ao;clear v N k P Q f0 f1 f2 f3 f4;obtain⟨⟨v,N,k,P,Q⟩,f0,f1,f2,f3,f4⟩:=ao.q5;clear bj az ao V);obtain⟨d,aa⟩:=ε (am.setCell (Δ g 0) (.slice z (L+1) E));have M:Touch (·=g) am d:=by rw[aa];exact(Touch.refl (·=g) am).setCell (p:=Δ g 0) (.inl rfl) _
   have aw:Cm d g 66 [.slice z (L+1) E,AB tt,true,e,.int .i64 0]:=by rw[aa];exact bx.Be 0 _
   rw[<-aa];have aD:rq d (λa=>F a\/M3 g bk b.nt a) z a9 (m.T++[set]):=bM.moved ⟨M.mono (λ_ c=>.inr (.inl c)),λ_=>.inl⟩;have an:Hm d (λa=>F a\/a=g) tt bk b m.t:=(W.below ap).tab.moved ⟨M.mono (λ_=>.inr),λ_=>.inl⟩;have aW:FP d (λa=>F a\/M3 g bk b.nt a) (.slice U aL Y) set:=by
    have i:=(a3.below b5).moved (⟨M.mono (λ_ c=>.inr (.inl c)),λ_=>.inl⟩:AQ (λa=>F a\/M3 g bk b.nt a) (λa=>F a\/M3 g bk b.nt a) am d);rw[bX.out];exact i
   have ac:(m.T++[set]).length=L+1:=by rw[AO,<-B.out];rfl
   have a2:=Ac (λn(a:η d n)=>VU (aD.below a) E (by rw[ac];omega:(m.T++[set]).length<=100000));rw[ac]at a2;obtain⟨R,br,b0⟩:∃R:ni,R=Az (m.T.length+1)/\R.toNat=L+1:=⟨Az (m.T.length+1),rfl,by rw[<-B.out];rw[Gq (by simp[JU];omega)]⟩;have a4:=Ac (λn(a:η d n)=>Agw (an.below a) R ((aW.below a).mono (λcd _ c=>.inr (.inr (.inr c))):FP n (·=b.nt) (.slice U aL Y) set) O);rw[b0]at a4;have aq:Hid (∀n,Touch (·=b.nt) d n->n.cell? (Δ g 1)=some (AB tt)):=Ac (λn a=>(aw.touch a (λc=>W.neb.2.1 c.symm)).cell 1);obtain⟨bL,bN,cc,bA,bS,bQ⟩:=lN aw aD an M br ac;have bg:=aq d  mP;clear v N k P Q f0 f1 f2 f3 f4 aa M aw aD an aW br ac;refine wp_region_held_drew (S:=λw'=>w'.cell? (Δ g 1)=some (AB tt)) Γ bg (λj=>?_);refine MW 0 (AB g) j ?_
   try simp only[Act.put,Au,Aj,Ah,Aq,Aw]
   refine MW 1 (AB g) j ?_
   try simp only[Act.put,Au,Ak,Aj,Ah,Aq,Aw]
   refine MW 2 (.pointer (some (Δ g 1))) j ?_
   try simp only[Act.put,Au,Ak,Aj,Ah,Aq,Aw]
   refine MW 3 (AB tt) j (hy:=λw cf=>by go_simp) ?_;refine MW 4 (.slice U aL Y) j ?_;refine MW 5 (.slice z (L+1) E) j ?_
   try simp only[Act.put,Au,Ak,Aj,Ah,Aq,Aw]
   refine wpAnyH_ready (rs:=[6]) Γ Θ ?_;refine AllReadyH.cons rfl (λav G=>?_) AllReadyH.nil;go_simp;go_at_call 117;refine(a2 _ (mX d)).ro ?_;refine G.out _ _ (aq _ (mD (mX d))) (λj=>?_);clear G av
   try simp only[Act.put,Au,Ak,Aj,Ah,Aq,Aw]
   refine wpAnyH_ready (rs:=[7]) Γ Θ ?_;refine AllReadyH.cons rfl (λav G=>?_) AllReadyH.nil;go_simp;go_at_call 67;refine(a4 _ (mX d)).mono ?_;rintro c aR⟨rfl,a0,bs⟩;have K:Touch (·=b.nt) d aR:=(mD (mX d)).trans bs (λ_=>.inl);refine G.out _ _ (aq _ K) (λj=>?_);clear G av
   try simp only[Act.put,Au,Ak,Aj,Ah,Aq,Aw]
   refine wpAnyH_done Γ ?_ _;have a7:=bL.touch K (λc=>W.neb.2.1 c.symm);have be:Ii aR F g tt bk b ⟨m.T++[set],Py m.t set R,some (e,0)⟩:=⟨⟨z,E,(e:Int),0,a9,by rw[bQ.out];exact a7,λaM c=>(by cases c;exact⟨rfl,rfl⟩),bN.moved ⟨K.mono (λ_ c=>.inr (.inr (.inr c))),λ_=>.inl⟩⟩,a0,W.fg⟩;have bO:=Ac (Auz be (i:=e) (l:=0) rfl bV bW);have bw:Hid (Touch (M3 g bk b.nt) w aR):=Ac ((bR.trans (mD ap) (λ_=>.inl)).trans ((bA.mono (λ_=>.inl)).trans K (λ_ c=>.inl (.inr (.inr c)))) (λ_=>.inl));clear a7 be K bs a0 j bg;go_wp2_with(refine bO.out.mono ?_;rintro c b7⟨rfl,bY,bm,a6,bq⟩;have C:Hid (E8 w F g tt bk b ⟨m.T++[set],Py (Gv m.t e) set (Az (m.T.length+1)),none⟩ b7):=Ac ⟨bY,bm,by rw[<-bS.out];exact a6,bw.trans bq (λ_=>.inl)⟩;clear a6 bq bm);go_ret3;exact⟨rfl,C⟩
end
def Ats{w:World}{a base' size n:Nat}{e:TypeId}{v:Value}{xs:List Value}(h:w.ownsRow a e size v n xs)(c:base'<=a):w.ownsRow base' e size v n xs:=
 ⟨h.1,h.2.elim .inl λ⟨g,b,k,i,d,j⟩=>.inr ⟨g,b,k,i,AZ c d,j⟩⟩
section
variable{w w':World}{F:Nat->Prop}{g tt bk:Nat}{b:Bk}{m:Md}
def Axb(h:Ii w F g tt bk b m)(id:Int)(e c:nG)(aa:Jv m.t)(C:ry m.T)(ar:m.T.length<=5000):
 Calls prog 120 #[AB g,id,e,c] w λq w'=>∃H,q=.returned (.tuple #[H,.int .i64 (Pq m id e c).2])/\w'.ownsRow w 159 2 H (Pq m id e c).1.length (Ht (Pq m id e c).1)/\η w w':=by
 obtain⟨A,be,iv,b4,bQ,k,_,u⟩:=h.box;have n:=Ac (Yv h.tab id);have ac:=k.c1;unfold Pq;unfold atV at n;cases E:Ey m.t.wt id with
 |false=>
  rw[E,lg Bool.false_ne_true]at n;rw[kX rfl];have x:Hid (w.ownsRow w 159 2 (.slice none 0 0) 0 []):=Ac (Ce _ _ _ _);clear h k u aa C ar;go_in;go_wp2_with(refine n.out.ro ?_);go_ret2;exact⟨_,rfl,x,mZ⟩
 |true=>
  rw[E,kX rfl]at n;rw[lg U];obtain⟨p,rfl,W,aM⟩:=IY E;rw[BC]at n⊢;obtain⟨a2,a3,bt⟩:=aa p W;obtain⟨j,av⟩:=ε (m.t.wt.ats p);rw[<-av]at n⊢;obtain⟨L,M,ap,al⟩:=lL (Vd h.tab W aM O) (λo(a:η w o)=>Ak1 (u.below a) C be ar j) (λo(a:η w o)=>(k.ξ a).p2) (ZO C (min j.toNat m.T.length) (Uu _ _));obtain⟨own,v⟩:=ε (m.t.sets p);rw[<-v]at a2 a3 L⊢;obtain⟨s,V⟩:=ε (LG (m.T.take j.toNat));have bl:s.length<=80000:=by
   have k:=al.out;have q:m.T.take (min j.toNat m.T.length)=m.T.take j.toNat:=by
    rcases Nat.le_total j.toNat m.T.length with h|h
    ·rw[EI h]
    ·rw[PD h,I7,Dq h]
   rw[q,<-V]at k;have:=Uu j.toNat m.T.length;have:min j.toNat m.T.length*16<=m.T.length*16:=Nat.mul_le_mul_right _ (by assumption);omega
  rw[<-V]at M⊢;obtain⟨d,D⟩:=ε (Hu s own);have bj:d.length<=90000:=by
   have:=VT own s;rw[<-D]at this;omega
  have a7:=Ac D;rw[<-D];clear h k u aa C W aM a3 bt E av v V D al;obtain⟨ab,_⟩:=ap w  mZ;go_in;go_wp2_with(first|(refine n.out.ro ?_)|(refine L.out.mono ?_;rintro q bx⟨bw,rfl,aG,Q⟩;obtain⟨a4,bg,rfl,bm,aR⟩:=C9 aG;have ae:=Ac Q;have ba:=Ac aR;clear ab ac;obtain⟨ab,ac⟩:=ap bx Q;clear aG Q bm aR)|(refine(M _ ae).mono ?_;rintro q bA⟨b6,rfl,aI,R⟩;obtain⟨a5,bh,rfl,aD,aW⟩:=C9 aI;have a8:=Ac (τ ae.out R);have B:=Ac (kQ s own a5 a4 bh bg bA O O aW aD (Rd.below ba R));rw[<-a7.out]at B;obtain⟨b2,X⟩:=ε s.length;obtain⟨b3,Y⟩:=ε own.length;rw[<-X,<-Y]at B;rw[<-X,<-Y];clear aI R aD aW X Y M L)|(refine B.mono ?_;rintro q I⟨b7,rfl,aL,az⟩;obtain⟨a6,bN,rfl,bo,a0⟩:=C9 aL;have ah:=Ac (τ a8.out az);have bb:=Ac (λo(a:η I o)=>(Rd.below a0 a:YO o a6 d));obtain⟨G,Z⟩:=ε d.length;have x:=Ac Z;rw[<-Z]at bj⊢;clear aL az bo a0 Z ab ac B bl a2));have bW:(⟨#[]⟩:nG).toList=[]:=by unfold ByteArray.toList ByteArray.toList.loop;rfl
  go_loopw [14,46](λH p wr=>∃a:Nat,a<=G/\p=.int .i64 (a:Nat)/\wr.ownsRow I 159 2 H ((d.take a).filter λi=>FB i.key e c).length (Ht ((d.take a).filter λi=>FB i.key e c))/\η I wr)(λ_ p _=>G-(intOf p).toNat)
  case atStart=>exact⟨0,Bd _,rfl,Ce _ _ _ _,mZ⟩
  case round=>
   obtain⟨a,bX,rfl,v,aw⟩:=hrel;have an:=Ac v;have J:=Ac aw;clear v aw;by_cases bq:a<G
   ·have aE:a<d.length:=Ω x.out;obtain⟨bM,b5,rfl,bV,br,bs⟩:=YO.at (l:=d) (bb _ J) a aE;have b0:=XH bq;have bY:=XI a O;have y:Hid ((d.take (a+1)).filter (λi=>FB i.key e c)=(d.take a).filter (λi=>FB i.key e c)++if FB d[a].key e c=true then[d[a]]else[]):=Ac (by
     rw[BH aE,List.filter_append];by_cases h:FB d[a].key e c=true
     ·rw[kX h];simp[h]
     ·rw[lg h];simp[h])
    have a9:Hid (((d.take a).filter λi=>FB i.key e c).length<=a):=Ac (by have:=List.length_filter_le (λi=>FB i.key e c) (d.take a);rw[Cc]at this;omega);generalize(d.take a).filter (λi=>FB i.key e c)=aq at*;generalize d[a]=bB at*;obtain⟨r,ad⟩:=bB;simp only at br bs y;obtain⟨o,au,S,-⟩:=E5 wr 159 [r,ad];have P:=Eu an S;have N:=τ J.out S;rw[au]at P N;have ao:=Ac P;have K:=Ac N;have bE:=a9.out;clear au S P N;cases k:Op.bytesLess r.toList e.toList<;>cases bi:(c.toList==[])<;>cases u:Op.bytesLess r.toList c.toList
    all_goals(have am:Hid (FB r e c=_):=Ac (by unfold FB;rw[k,bi,u]);simp only[Bool.not_true,Bool.not_false,Bool.true_and,Bool.false_and,Bool.or_true,Bool.or_false]at am;rw[am.out]at y;go_wp2_with(at_builtin;refine BU rfl (.tmp 64) (.tmp 66) 37 rfl Tryz.Uo (wr.alloc (.cells #[r,ad] 159)) I u14 aq.length (Ht aq) (prC ⟨r,ad⟩) rfl (by exact ao) rfl _ 1 rfl Θ rfl U (by intro bw a1;simp[prC]at a1;rcases a1 with rfl|rfl<;>rfl) O U (by exact K.size) ?_;intro bR bO b8 bd bc bS bL))
    all_goals(first
     |exact⟨⟨a+1,O,by go_num,by rw[y.out,kX rfl,AO,EO,Anu];exact bd,K.trans bc⟩,by simp[intOf];omega⟩
     |exact⟨⟨a+1,O,by go_num,by rw[y.out,lg Bool.false_ne_true,EN];exact ao,K⟩,by simp[intOf];omega⟩)
   ·have bp:a=G:=O;subst bp;have b1:=wO (Abz a);have z:=an.out;rw[Dq (by rw[<-x.out];exact Ae _)]at z;have z:=Ac z;go_wp2;go_ret2;exact⟨_,rfl,Ats z ah.size,τ ah.out J.out⟩
end
end
section
open Go.RowKit Go.Shelf
attribute [local go_sem]Oper.semAt_some
def Ak7(q:Nat×Value):Value:=.agg #[.int .u64 (q.1:Int),q.2]
def Ap2(F:Fence)(n:Nat)(ac:F.fn 230)(al:F.round=none)(aD:1<=n)(g e c:Nat)(A:Option Addr)(off:Nat)(a:List (Nat×Value))(aE:a.length<=100000)(Z:0<a.length->A=some (Δ e off))(w:World)
 (s:w.cell? (Φ g)=some (.slice A a.length c))(v:∀d(h:d<a.length),w.cell? (Δ e (off+d*2))=some (.int .u64 (a[d].1:Int))/\w.cell? (Δ e (off+d*2+1))=some a[d].2)(ah:e<w):
 SeqStopsK F n prog 230 #[AB g] (λB:Below' a.length=> #[B.1,Ak7 (a[B.1]'B.2)]) (Yz e g) (λan=>an=Dl a.length a.length) (λam=>am<+:Dl a.length a.length) a.length w:=λl q V k u av aw J Y=>by
 have aa:=World.block_lt_of_cell? w _ s;have R:k.heap[g]?=w.heap[g]?:=u.block g aa;have x:k.heap[e]?=w.heap[e]?:=u.block e ah;have z:∀j:World,j.heap[g]?=k.heap[g]?->j.cell? (Φ g)=some (.slice A a.length c):=λj m=>(BQ (w:=w) (m.trans R)).trans s
 have S:∀j:World,j.heap[e]?=k.heap[e]?->∀d(h:d<a.length),j.cell? (Δ e (off+d*2))=some (.int .u64 (a[d].1:Int))/\j.cell? (Δ e (off+d*2+1))=some a[d].2:=λj m d h=>⟨(BQ (w:=w) (m.trans x)).trans (v d h).1,(BQ (w:=w) (m.trans x)).trans (v d h).2⟩
 obtain⟨W,X,U⟩:=l9 z S J;have aM:=z k rfl;have aq:=wR ((a.length:Int) -1);clear s v J R x z S u;refine callsIn_of_wp func230 rfl ac ?_ al;simp only[ntmps230,Tn,Bg,CV,Au2,Au3,Abw,Abx,Alj,Afz,DR,BM];gi_wp2
 gi_loopw [3](λy wr=>∃b,b<=a.length/\y=.int .i64 ((a.length:Int) -1-(b:Int))/\q (Dl a.length b) wr/\wr.heap[e]?=k.heap[e]?/\wr.heap[g]?=k.heap[g]?)(λy _=>(intOf y+1).toNat)
 case atStart=>exact⟨0,Bd _,by simp,Y,rfl,rfl⟩
 case round=>
  obtain⟨b,az,rfl,t,E,G⟩:=hrel;by_cases ad:b<a.length
  ·have N:b<a.length:=ad;obtain rfl:=Z O;obtain⟨i,L⟩:=ε (a.length-1-b);have p:i<a.length:=O;have ae:((a.length:Int) -1-(b:Int))=(i:Int):=O;rw[ae];have K:=Ac (OO a.length b N);obtain⟨au,aL,ao,ap,Q,ab⟩:=U (Dl a.length b) ⟨i,p⟩ wr t (by rw[Xv _ _ O];exact N);have aR:=W wr G;obtain⟨aW,a0⟩:=X wr E i p;have aG:(i:Int)<(a.length:Int):=O;have ar:=wR ((i:Int) -1);unfold Ak7 at Q
   dsimp only at Q
   generalize a[i]=aI at*;have o:=Ac L;clear L;gi_wp2;refine ab.mono ?_;rintro m D(⟨rfl,H,M⟩|⟨rfl,I⟩)
   ·have r:Hid (q (Dl a.length (b+1)) D):=Ac (by
     rw[K.out];have:(⟨a.length-1-b,O⟩:Below' a.length)=⟨i,p⟩:=Subtype.ext o.symm;rw[this];exact H)
    have C:=Ac M;clear H M;gi_wp2;go_roundw
    case rel=>exact⟨b+1,O,by have:=o.out;congr 1;omega,r,C.1.trans E,C.2.trans G⟩
    case measure=>have:=o.out;simp[intOf]
   ·have r:Hid (V (Dl a.length (b+1)) D):=Ac (by
     rw[K.out];have:(⟨a.length-1-b,O⟩:Below' a.length)=⟨i,p⟩:=Subtype.ext o.symm;rw[this];exact I)
    clear I;gi_wp2;refine bodyPost_ret (results_none rfl _ _ _) rfl ?_;exact⟨⟨_,rfl⟩,.inr ⟨Dl a.length (b+1),Xw _ _ _ O,r⟩⟩
  ·have P:b=a.length:=O;rw[show((a.length:Int) -1-(b:Int))= -1 by omega];have T:Hid (q (Dl a.length a.length) wr):=Ac (P▸t);clear t P;gi_wp2;go_end0;exact⟨⟨_,rfl⟩,.inl ⟨Dl a.length a.length,rfl,T⟩⟩
end
section
open Go.RowKit Go.Shelf
attribute [local go_sem]Oper.semAt_some
def Axc(A:Option Addr)(n c:Nat)(w:World):Calls prog 205 #[.slice A n c] w λa w'=>a=.returned (.func (.func 230) #[] #[AB w])/\w'=w.alloc (.cells #[.slice A n c] 34):=by
 go_wp2;refine bodyPost_ret (v:=.func (.func 230) #[] #[AB w]) (by simp[results,results205,go_sem]) rfl ?_;exact⟨rfl,rfl⟩
def readB(T:List (List Wr))(a:ni)(key:nG){n:Nat}(b:n<=T.length):List (Below' n)->Option nG
 |[]=>none
 |c::d=>if a.toNat<c.1+1 then readB T a key b d else match L8 (T[c.1]'(Bc c.2 b)) key with
  |some e=>if e.gone then none else some e.text
  |none=>readB T a key b d
def Abi(n:Nat):(k:Nat)->k<=n->List (Below' n)
 |0,_=>[]
 |k+1,h=>⟨k,h⟩::Abi n k (Nat.le_of_succ_le h)
def lC(n:Nat):∀a(h:a<=n),Dl n n=Dl n (n-a)++Abi n a h
 |0,_=>by simp[Abi]
 |a+1,h=>by
  rw[lC n a O,show n-a=(n-(a+1))+1 by omega,OO n (n-(a+1)) O,Abi,Ba];have:(⟨n-1-(n-(a+1)),O⟩:Below' n)=⟨a,h⟩:=Subtype.ext (by show n-1-(n-(a+1))=a;omega);rw[this];rfl
def rD(T:List (List Wr))(b:ni)(key:nG){n:Nat}(e:n<=T.length):∀a(h:a<=n),readB T b key e (Abi n a h)=LD ((T.take a).take b.toNat) key
 |0,_=>by simp[Abi,readB,LD,kY]
 |a+1,h=>by
  have d:a<T.length:=O;have g:T.take (a+1)=T.take a++[T[a]]:=BH d;rw[Abi,readB,rD T b key e a O];by_cases c:b.toNat<a+1
  ·rw[kX c,Rq,Rq,EI O,EI O]
  ·rw[lg c,Rq,Rq,PD O,PD O,g,ZN];cases L8 (T[a]'d) key<;>simp
def Ap3(T:List (List Wr))(a:ni)(key:nG){n:Nat}(c:n<=T.length)(d:n=T.length):readB T a key c (Dl n n)=LD (T.take a.toNat) key:=by
 have b:=lC n n (Ae _);rw[Nat.sub_self]at b;rw[b];show readB T a key c (Abi n n _)=_;rw[rD,d,I7]
def bz(w:World)(key:nG)(b:ni)(S:Value)(a:World):Prop:=
 (Cm a w 9 [key]/\Cm a (w+1) 47 [b]/\Cm a (w+2) 9 [.string ⟨#[]⟩]/\Cm a (w+3) 4 [false]/\Cm a (w+4) 34 [S])/\Touch (λ_=>False) w a/\w.heap.size+5<=a
def bz.grown{w:World}{key:nG}{n:ni}{S:Value}{X m:World}{row:Option Nat}(h:bz w key n S X){B:Nat}(t:w<=B)(r:X.grownBy m row)
 (p:∀c,row=some c->B<=c/\∃l,X.heap[c]?=some l/\l.isCells=false):bz w key n S m:=by
 obtain⟨⟨o,j,g,d,k⟩,q,s⟩:=h;have i:∀c,row=some c->¬KW X c:=λc a⟨l,j,g⟩=>by
  obtain⟨_,u,d,k⟩:=p c a;rw[j]at d;injection d with d
  rw[d,k]at g;cases g
 have e:=Gi r;exact⟨⟨o.touch e (λa=>i _ a (Ef o)),j.touch e (λa=>i _ a (Ef j)),g.touch e (λa=>i _ a (Ef g)),d.touch e (λa=>i _ a (Ef d)),k.touch e (λa=>i _ a (Ef k))⟩,q.trans e (λb a=>.inr (Ω ((p b a).1))),AZ s e.size⟩
def bz.below{w:World}{key:nG}{b:ni}{S:Value}{X a:World}(h:bz w key b S X)(k:η X a):bz w key b S a:=by
 obtain⟨⟨c,d,e,g,i⟩,j,l⟩:=h;exact⟨⟨c.ξ k,d.ξ k,e.ξ k,g.ξ k,i.ξ k⟩,j.trans (mD (F:=λ_=>False) k) (λ_=>.inl),AZ l k.size⟩
def rE:Option nG->Value
 |some a=>.tuple #[a,true]
 |none=>.tuple #[.string ⟨#[]⟩,false]
def Ak8{w:World}{G:Nat->Prop}{A:Option Addr}{i:List (Nat×Value)}{T:List (List Wr)}(h:rq w G A i T)(c:Nat)(ap:T.length<=5000)(bm:ry T)(key:nG)(_:key.size<=16)(k:ni):
 Calls prog 170 #[.slice A T.length c,.string key,.int .u64 (k.toNat:Int)] w λa w'=>a=.returned (rE (LD (T.take k.toNat) key))/\η w w':=by
 refine(callsIn_wide (n:=3)).1 ?_;refine callsIn_of_wp_marks func170 rfl trivial ?_ rfl;simp only[ntmps170,Tn,Bg,CV,Au2,Au3,Abw,Abx,Alj,Afz,DR,BM];gi_wp2_with(refine⟨trivial,?_⟩;gi_at_call 205;refine(callsIn_wide.2 (Axc _ _ _ _)).mono ?_;rintro a w'⟨rfl,rfl⟩);obtain⟨bE,bc,cg,b1⟩:=E5 w 9 [.string key];obtain⟨bL,bd,bq,M⟩:=E5 bE 47 [.int .u64 (k.toNat:Int)];obtain⟨bM,be,a1,P⟩:=E5 bL 9 [.string ⟨#[]⟩];obtain⟨bN,bg,aq,a9⟩:=E5 bM 4 [.bool false];obtain⟨B,bh,ad,ba⟩:=E5 bN 34 [.slice A T.length c];rw[<-bc,<-bd,<-be,<-bg,<-bh];have bw:bE.heap.size=w.heap.size+1:=by rw[bc];simp
 have bx:bL.heap.size=w.heap.size+2:=by rw[bd];simp[bw]
 have bA:bM.heap.size=w.heap.size+3:=by rw[be];simp[bx]
 have bB:bN.heap.size=w.heap.size+4:=by rw[bg];simp[bA]
 have cx:B.heap.size=w.heap.size+5:=by rw[bh];simp[bB]
 have bk:η w B:=(((τ cg bq).trans (a1.mono O)).trans (aq.mono O)).trans (ad.mono O);have l:bz w key k (.slice A T.length c) B:=by
  refine⟨?_,mD bk,O⟩;rw[bw]at M;rw[bx]at P;rw[bA]at a9;rw[bB]at ba;exact⟨(((b1.ξ bq).below a1 O).below aq O).below ad O,((M.below a1 O).below aq O).below ad O,(P.below aq O).below ad O,a9.below ad O,ba⟩
 have Q:=h.len;have bj:=h.below bk;have bt:=l.1.2.2.2.2.p1;obtain⟨I,H,cb,cd,ce⟩:∃I H,(0<i.length->A=some (Δ I H))/\I<B.heap.size/\∀q(h:q<i.length),B.cell? (Δ I (H+q*2))=some (.int .u64 (i[q].1:Int))/\B.cell? (Δ I (H+q*2+1))=some i[q].2:=by
  by_cases cp:i.length=0
  ·exact⟨w,0,λh=>O,O,λq hi=>O⟩
  ·obtain⟨b,H,a,aL,b6⟩:=bj.row.1.2 O;have z:∀q aa,(hi:q<i.length)->aa<2->B.cell? (Δ b (H+q*2+aa))=(cmC i[q])[aa]?:=λq aa hi b9=>by
    rw[JD,b6 (q*2+aa) O];exact flat_get cmC 2 (λ_=>rfl) i q aa hi b9
   exact⟨b,H,λ_=>a,aL,λq hi=>⟨z q 0 hi U,z q 1 hi U⟩⟩
 rw[<-Q]at bt;have b0:=Ap3 T k key (IZ Q) Q;refine wpIn_rangeFunc_ownH rfl U (gf:=230) (lb:= #[AB (w.heap.size+4)]) rfl trivial (enters_of func230 Γ rfl)
  (encs:=λe:Below' i.length=> #[.int .i64 (e.1:Int),Ak7 (i[e.1]'e.2)]) (Kp:=Yz I (w.heap.size+4)) (S:=λbQ=>bQ=Dl i.length i.length) (Sp:=λu=>u<+:Dl i.length i.length) (N:=i.length) (w0:=B)
  (Ap2 Fence.wide 2 trivial rfl U (w.heap.size+4) I c A H i O cb B bt ce cd) (λs x=>⟨x.1.trans s.1,x.2.trans s.2⟩) (λg cy d bs cs cv s _=>⟨Tv O,Tv O⟩)  mZ (λ_=>rfl)
  (λu g=>(∀m,u++m=Dl i.length i.length->LD (T.take k.toNat) key=readB T k key (IZ Q) m)/\bz w key k (.slice A T.length c) g)
  (λa u g=>a=.ret/\(∃r:Option nG,(∀m,u++m=Dl i.length i.length->LD (T.take k.toNat) key=r)/\Cm g (w.heap.size+2) 9 [.string (r.getD ⟨#[]⟩)]/\Cm g (w.heap.size+3) 4 [.bool r.isSome])/\Touch (λ_=>False) w g/\w.heap.size+5<=g.heap.size)
  ?hI ?hIx ⟨λm a=>by rw[<-b0,<-a];rfl,l⟩
  (λe aE g=>∃J,B.heap.size<=J/\Cm g J 51 [.int .u64 ((i[e.1]'e.2).1:Int),(i[e.1]'e.2).2]/\aE={tmps:= #[.slice A T.length c,.string key,.int .u64 (k.toNat:Int),undef,AB w,AB (w.heap.size+1),AB (w.heap.size+1+1),AB (w.heap.size+1+1+1),undef,AB J,undef,undef,.slice A T.length c,.func (.func 230) #[] #[AB (w.heap.size+1+1+1+1)],.int .i64 (e.1:Int),Ak7 (i[e.1]'e.2),undef,undef,undef,undef,undef,undef,undef,undef,undef,undef,undef,undef,undef,undef,undef,undef,undef,undef,undef,undef],defers:=[]})
  ?hAx ?assign ?body ?done ?stop
 case hI=>
  rintro u ab a8 a2⟨y,o⟩z t;exact⟨y,o.grown O z t⟩
 case hIx=>
  rintro a u ab a8 a2⟨b7,⟨r,ca,x,F⟩,ap,aW⟩z t;have bl:∀r,a2=some r->¬KW ab r:=λr a⟨d,s,x⟩=>by
   obtain⟨_,bs,F,Y⟩:=t r a;rw[s]at F;injection F with F
   rw[F,Y]at x;cases x
  have ar:=Gi z;exact⟨b7,⟨r,ca,x.touch ar (λa=>bl _ a (Ef x)),F.touch ar (λa=>bl _ a (Ef F))⟩,ap.trans ar (λb a=>.inr (Ω ((t b a).1))),AZ aW ar.size⟩
 case hAx=>
  intro e aE;rintro au ab a8 a2⟨J,s,x,F⟩z t;refine⟨J,s,x.touch (Gi z) (λa=>?_),F⟩;obtain⟨_,bs,Y,b3⟩:=t J a;obtain⟨d,b4,bi⟩:=Ef x;rw[b4]at Y;injection Y with Y
  rw[Y,b3]at bi;cases bi
 case assign=>
  rintro br u e g co⟨y,o⟩ao;have b8:I<g.heap.size:=Ω o.2.2;unfold Ak7 at ao⊢;obtain⟨bS,bb,am,-⟩:=(bj.set e.1 e.2 (Ω e.2)).2;simp only[am]at ao⊢;obtain⟨bY,bX,l⟩:=l9 y ao o;clear ao y o;gi_wp2;have aR:∀d,η g (g.alloc d):=λd=>mZ.alloc (Ae _) _
  have aW:=l.out.2.2;exact bX _ _ ((KeepsOthers.alloc _ _).from _) ⟨χ _ _ b8,χ _ _ O⟩ ⟨bY,l.out.below (aR _)⟩ ⟨g,O,heap_alloc_new _ _,rfl⟩
 case body=>
  rintro br u e aE g ct⟨r,cw⟩⟨y,o⟩⟨J,cr,an,rfl⟩cu;have Z:e.1<T.length:=Ω e.2;have aR:η w g:=o.2.1.below (Ae _) (λ_ a=>a.elim);obtain⟨bp,bS,bb,am,bo⟩:=(h.below aR).set e.1 e.2 Z;have av:=an.cell 0;have bO:=an.cell 1;have ch:=o.1.1.p1;have ci:=o.1.2.1.p1;simp only[Af,Ai,am,bp]at av bO;have cf:=(bm _ (BO Z)).1;have cq:=(bm _ (BO Z)).2;have a7:Hid (k.toNat<e.1+1\/L8 (T[e.1]'Z) key=none->∀m,u++[e]++m=Dl i.length i.length->LD (T.take k.toNat) key=readB T k key (IZ Q) m):=Ac (λa m t=>by
   rw[y (e::m) (by rw[<-t,Ba];rfl),readB];by_cases s:k.toNat<e.1+1
   ·rw[kX s]
   ·rw[lg s,a.resolve_left s])
  have bW:Hid (∀aw,¬k.toNat<e.1+1->L8 (T[e.1]'Z) key=some aw->∀m,u++[e]++m=Dl i.length i.length->LD (T.take k.toNat) key=if aw.gone then none else some aw.text):=Ac (λaw s a m t=>by
   rw[y (e::m) (by rw[<-t,Ba];rfl),readB,lg s,a])
  obtain⟨l,cn,bV⟩:=l9 o an bo;clear y o an bo am bp;unfold Ak7;by_cases aI:k.toNat<e.1+1
  ·have t1:decide ((e.1:Int)+1>(k.toNat:Int))=true:=decide_eq_true O;have t2:decide ((k.toNat:Int)<(e.1:Int)+1)=true:=decide_eq_true O;have L:=Ac (a7 (.inl aI));clear aI;simp only[rP,Aqp]at av;gi_wp2;exact⟨KeepsFrom.refl _ _,⟨rfl,rfl⟩,L,l⟩
  ·have t1:decide ((e.1:Int)+1>(k.toNat:Int))=false:=decide_eq_false O;have t2:decide ((k.toNat:Int)<(e.1:Int)+1)=false:=decide_eq_false O;simp only[rP,Aqp]at av;have a5:=Ac (vV (c:=bb) key O bV.2.1 cf);gi_wp2;refine⟨trivial,?_⟩;refine((callsIn_wide.2 a5).inRound br).mono ?_;rintro a v⟨rfl,aM⟩;have a6:=Ac (l.out.below aM);have cj:v.cell? (Φ (w+1+1))=some (.string ⟨#[]⟩):=a6.1.2.2.1.p1;have ck:v.cell? (Φ (w+1+1+1))=some (.bool false):=a6.1.2.2.2.1.p1;have ae:=Ac aM;clear aM a5 av bO ch ci;unfold Apf;cases z:L8 (T[e.1]'Z) key with
   |none=>
    have L:=Ac (a7 (.inr z));simp only;gi_wp2;have C:∀d,η g (v.alloc d):=λd=>ae.alloc ae.size d
    have a0:=l.out.2.2;exact⟨J9 (G:=λ_=>False) _ (mD (C _)) (λb aL _=>aL.elim),⟨(C _).block _ O,(C _).block _ O⟩,L,l.out.below (C _)⟩
   |some bR=>
    have L:=Ac (bW bR aI z);obtain⟨cz,a3,b2⟩:=bR;unfold OY;have a0:=l.out.2.2;have C:∀d,η g (v.alloc d):=λd=>ae.alloc ae.size d
    have cl:∀d,(v.alloc d).cell? (Φ (w+1+1))=some (.string ⟨#[]⟩):=λd=>(l.out.below (C d)).1.2.2.1.p1
    have al:∀d j,Cm ((v.alloc d).setCell (Δ (w+1+1) 0) j) (w.heap.size+3) 4 [.bool false]:=λd j=>(l.out.below (C d)).1.2.2.2.1.touch ((Touch.refl (·=w.heap.size+1+1) _).setCell (p:=Δ (w+1+1) 0) (.inl rfl) j) O
    have cm:∀d j,((v.alloc d).setCell (Δ (w+1+1) 0) j).cell? (Φ (w+1+1+1))=some (.bool false):=λd j=>(al d j).p1
    have ah:Hid (∀d(r:Option nG),Cm (((v.alloc d).setCell (Δ (w+1+1) 0) (.string (r.getD ⟨#[]⟩))).setCell (Δ (w+1+1+1) 0) (.bool r.isSome)) (w.heap.size+2) 9 [.string (r.getD ⟨#[]⟩)]/\Cm (((v.alloc d).setCell (Δ (w+1+1) 0) (.string (r.getD ⟨#[]⟩))).setCell (Δ (w+1+1+1) 0) (.bool r.isSome)) (w.heap.size+3) 4 [.bool r.isSome]):=Ac (λd r=>
     ⟨((l.out.below (C d)).1.2.2.1.Be 0 _).touch ((Touch.refl (·=w.heap.size+1+1+1) _).setCell (p:=Δ (w+1+1+1) 0) (.inl rfl) _) O,(al d _).Be 0 _⟩)
    have a4:Hid (∀b,(b=w.heap.size+1+1\/b=w.heap.size+1+1+1)->b<g.heap.size->KW g b):=Ac (λb a _=>by
     rcases a with rfl|rfl
     ·exact Ef l.out.1.2.2.1
     ·exact Ef l.out.1.2.2.2.1)
    have X:Hid (∀d au j,Touch (λb=>b=w.heap.size+1+1\/b=w.heap.size+1+1+1) g (((v.alloc d).setCell (Δ (w+1+1) 0) au).setCell (Δ (w+1+1+1) 0) j)):=Ac (λd au j=>((mD (C d)).setCell (p:=Δ (w+1+1) 0) (.inl (.inl rfl)) au).setCell (p:=Δ (w+1+1+1) 0) (.inl (.inr rfl)) j);have D:∀d,Cm (v.alloc d) (w.heap.size+1+1) 9 [.string ⟨#[]⟩]:=λd=>(l.out.below (C d)).1.2.2.1
    have E:∀d j,Cm ((v.alloc d).setCell (Δ (w+1+1) 0) j) (w.heap.size+1+1+1) 4 [.bool false]:=al;have f2:=λd=>(D d).frozen 0
    have f3:=λd j=>(E d j).frozen 0
    clear al cj ck D E;simp only at L⊢;cases b2 with
    |true=>
     gi_wp2;exact⟨J9 _ (X _ _ _) a4,rfl,⟨none,λm a=>(L m (by first|exact a|(rw[<-Q]at a;exact a))).trans Θ,(ah _ (none)).1,(ah _ (none)).2⟩,l.out.2.1.trans (X _ _ _) (λb a=>.inr (by rcases a with a|a<;>omega)),AZ a0 (X _ _ _).size⟩
    |false=>
     gi_wp2;exact⟨J9 _ (X _ _ _) a4,rfl,⟨some a3,λm a=>(L m (by first|exact a|(rw[<-Q]at a;exact a))).trans Θ,(ah _ (some a3)).1,(ah _ (some a3)).2⟩,l.out.2.1.trans (X _ _ _) (λb a=>.inr (by rcases a with a|a<;>omega)),AZ a0 (X _ _ _).size⟩
 case done=>
  rintro K bQ g b5 rfl⟨y,o⟩ac;have az:Hid (LD (T.take k.toNat) key=none):=Ac (y [] (EN _));have D:Cm g (w.heap.size+1+1) 9 [.string ⟨#[]⟩]:=o.1.2.2.1;have E:∀j,Cm (g.setCell (Δ (w+1+1) 0) j) (w.heap.size+1+1+1) 4 [.bool false]:=λj=>o.1.2.2.2.1.touch ((Touch.refl (·=w.heap.size+1+1) _).setCell (p:=Δ (w+1+1) 0) (.inl rfl) j) O
  have cl:=D.p1;have cm:=λj=>(E j).p1
  have f2:=D.frozen 0;have f3:=λj=>(E j).frozen 0
  have l:=Ac o;have V:Hid (Cm ((g.setCell (Δ (w+1+1) 0) (.string ⟨#[]⟩)).setCell (Δ (w+1+1+1) 0) (.bool false)) (w.heap.size+1+1) 9 [.string ⟨#[]⟩]):=Ac ((D.Be 0 _).touch ((Touch.refl (·=w.heap.size+1+1+1) _).setCell (p:=Δ (w+1+1+1) 0) (.inl rfl) _) O);have W:Hid (Cm ((g.setCell (Δ (w+1+1) 0) (.string ⟨#[]⟩)).setCell (Δ (w+1+1+1) 0) (.bool false)) (w.heap.size+1+1+1) 4 [.bool false]):=Ac ((E _).Be 0 _);have aD:Hid (Touch (λb=>w.heap.size<=b) w ((g.setCell (Δ (w+1+1) 0) (.string ⟨#[]⟩)).setCell (Δ (w+1+1+1) 0) (.bool false))):=Ac (((o.2.1.mono (λ_ a=>a.elim)).setCell (p:=Δ (w+1+1) 0) (.inr (by show w.heap.size<=w.heap.size+1+1;omega)) _).setCell (p:=Δ (w+1+1+1) 0) (.inr (by show w.heap.size<=w.heap.size+1+1+1;omega)) _);clear y o D E;gi_wp2;have aG:=(KeepsOthers.setCell (g.setCell (Δ (w+1+1) 0) (.string ⟨#[]⟩)) (Φ (w+1+1+1)) (.bool false)).same K _ ((KeepsOthers.setCell g (Φ (w+1+1)) (.string ⟨#[]⟩)).same K _ ac rfl) rfl;have V:=V.out;have W:=W.out;have aD:=aD.out;generalize(g.setCell (Δ (w.heap.size+1+1) 0) (.string ⟨#[]⟩)).setCell (Δ (w.heap.size+1+1+1) 0) (.bool false)=ab at*;refine⟨by simp,.inl ⟨_,_,rfl,run_takeDeferred aG,?_⟩⟩;have R:=Gi (grownBy_putObj' ab K (.deferred none));have d2:=(V.touch R (λa=>by injection a with a;subst a;unfold Cm at V;rw[aG]at V;cases V)).p1;have d3:=(W.touch R (λa=>by injection a with a;subst a;unfold Cm at W;rw[aG]at W;cases W)).p1;refine⟨rE none,?_,?_⟩
  ·simp[results,results170,go_sem,d2,d3,rE]
  ·exact⟨by rw[az.out],(aD.trans R (λb a=>.inr (by injection a with a;subst a;omega))).below (Ae _) (λ_ a=>a)⟩
 case stop=>
  rintro K a u g b5⟨m,cc⟩⟨rfl,⟨r,t,M,P⟩,ap,aW⟩ac;have az:=Ac (t m cc);gi_wp2;refine⟨by simp,.inl ⟨_,_,rfl,run_takeDeferred ac,?_⟩⟩;have R:=Gi (grownBy_putObj' g K (.deferred none));have D:=(M.touch R (λa=>by injection a with a;subst a;unfold Cm at M;rw[ac]at M;cases M)).p1;have E:=(P.touch R (λa=>by injection a with a;subst a;unfold Cm at P;rw[ac]at P;cases P)).p1;refine⟨rE r,?_,?_⟩
  ·have d2:(g.putObj K (.deferred none)).cell? (Φ (w+1+1))=_:=D;have d3:(g.putObj K (.deferred none)).cell? (Φ (w+1+1+1))=_:=E;cases r<;>simp[results,results170,go_sem,d2,d3,rE]
  ·exact⟨by rw[az.out],(ap.trans R (λb a=>.inr (by injection a with a;subst a;omega))).below (Ae _) (λ_ a=>a.elim)⟩
end
section
open Go.RowKit
section
variable{w w':World}{F:Nat->Prop}{g tt bk:Nat}{b:Bk}{m:Md}
def A1o(h:Ii w F g tt bk b m)(id:Int)(key:nG)(aq:key.size<=4294967296)(r:Jv m.t)(p:ry m.T)(u:m.T.length<=5000):
 Calls prog 119 #[AB g,id,key] w λn w'=>n=.returned (.tuple #[.string (lq m id key).1,.int .i64 (lq m id key).2])/\η w w':=by
 obtain⟨A,G,iv,au,ap,k,_,o⟩:=h.box;have c:=Ac (Yv h.tab id);have am:=k.c1;unfold lq;unfold atV at c;cases q:Ey m.t.wt id with
 |false=>
  rw[q,lg Bool.false_ne_true]at c;rw[kX rfl];clear h k o r p u;go_in;go_wp2_with(refine c.out.ro ?_);go_ret2;exact⟨rfl,mZ⟩
 |true=>
  rw[q,kX rfl]at c;rw[lg U];by_cases d:16<key.size
  ·rw[kX d];have t1:=dT ((16:Int)<(key.size:Int));have t2:=dT (16<key.size) d;clear h k o r p u d;go_in;go_wp2_with(refine c.out.ro ?_);go_ret2;exact⟨rfl,mZ⟩
  rw[lg d];have t1:=dF ((16:Int)<(key.size:Int));have t2:=dF (16<key.size) d;obtain⟨z,rfl,v,N⟩:=IY q;rw[BC]at c⊢;obtain⟨R,B,ah⟩:=r z v;obtain⟨E,H⟩:=ε (m.t.wt.ats z);rw[<-H]at c⊢;obtain⟨s,C,aa⟩:=l9 (Vd h.tab v N O) (λj(l:η w j)=>Ak8 (o.below l) G u p key O E) (λj(l:η w j)=>(k.ξ l).p2);obtain⟨own,P⟩:=ε (m.t.sets z);rw[<-P]at R B s⊢;have Z:=Ac B;obtain⟨ae,x⟩:=ε (L8 own key);have W:=Ac x;obtain⟨S,y⟩:=ε (LD (m.T.take E.toNat) key);rw[<-y]at C;rw[<-x,<-y];clear x y h k o r p v N B ah q H P d;go_in;go_wp2_with(first|(refine c.out.ro ?_)|(refine s.out.mono ?_;rintro n al⟨aw,rfl,M,I⟩;obtain⟨ao,ab,rfl,ad,Q⟩:=C9 M;have X:=Ac I;have i:=Ac (λj(l:η al j)=>vV (c:=ab) key O (Rd.below Q l) Z);unfold Apf at i;rw[<-W.out]at i;obtain⟨av,L⟩:=ε own.length;rw[<-L]at i⊢;clear M I ad Q L s c am W R));refine(i _  mZ).mono ?_;rintro n V⟨rfl,J⟩;have a:=Ac (τ X.out J);clear J i;cases ae with
  |some an=>
   obtain⟨ar,S,ac⟩:=an;unfold OY;simp only;cases ac
   all_goals(go_wp2)
   all_goals(go_ret2)
   all_goals(exact⟨rfl,a.alloc a.size _⟩)
  |none=>
   have aD:∀e,(V.alloc e).cell? (Φ g)=some (.slice A m.T.length G):=λe=>(aa _ (a.alloc a.size e)).1
   have D:=Ac (λe=>C (V.alloc e) (a.alloc a.size e));unfold rE at D;simp only;cases S
   all_goals(go_wp2_with(refine(D.out _).mono ?_;rintro n az⟨rfl,K⟩;have Y:=Ac ((a.alloc a.size _).trans (K.mono (a.alloc a.size _).size));clear K);go_ret2)
   all_goals(exact⟨rfl,Y⟩)
end
section
variable{w w':World}{F F':Nat->Prop}{g tt bk:Nat}{b:Bk}{m:Md}
def Ii.moved(h:Ii w F g tt bk b m)(t:Touch F w w')(d:∀k,F' k->F k\/w<=k):Ii w' F' g tt bk b m:=by
 obtain⟨A,c,i,l,cs,e,j,n⟩:=h.box;have o:=h.lt.1;exact⟨⟨A,c,i,l,cs,e.touch t h.fg,j,n.moved ⟨t.mono (λ_=>.inl),λk a=>a.elim (λa=>(d k a).imp .inl (λh=>h)) (λa=>.inl (.inr a))⟩⟩,
  h.tab.moved ⟨t.mono (λ_=>.inl),λk a=>a.elim (λa=>(d k a).imp .inl (λh=>h)) (λa=>.inl (.inr a))⟩,λa=>(d g a).elim h.fg (λh=>O)⟩
def E8.wrap{d i:World}{N:Nat->Prop}{e:Md}(n:η w d)(m:∀a,N a->w<=a)(h:E8 d (λa=>F a\/N a) g tt bk b e i)(t:Touch N i w'):E8 w F g tt bk b e w':=by
 obtain⟨j,o,k,l⟩:=h;exact⟨j,o,k.moved (t.mono (λ_=>.inr)) (λ_ c=>.inl (.inl c)),((mD n).trans l (λ_=>.inl)).trans t (λa c=>.inr (m a c))⟩
def Ii.wide{a:World}{N:Nat->Prop}(h:Ii w F g tt bk b m)(e:η w a)(d:∀k,N k->w<=k):Ii a (λk=>F k\/N k) g tt bk b m:=
 h.moved (mD e) (λk c=>c.imp (λh=>h) (d k))
end
inductive AnK(g id:Nat)(key text:nG):Int->Nat->Array Value->(Rz->Value)->(Rz->Value)->Prop
 |kp:AnK g id key text 1 118 #[AB g,id,.agg #[key,text,false]] (λr=>.int .i64 r.er) (λr=>YP ⟨#[]⟩ (.slice none 0 0) 0 false r.er)
 |kd:AnK g id key text 2 118 #[AB g,id,.agg #[key,.string ⟨#[]⟩,true]] (λr=>.int .i64 r.er) (λr=>YP ⟨#[]⟩ (.slice none 0 0) 0 false r.er)
 |kt:AnK g id key text 3 119 #[AB g,id,key] (λr=>.tuple #[r.tx,r.er]) (λr=>YP r.tx (.slice none 0 0) 0 false r.er)
 |ks:AnK g id key text 4 120 #[AB g,id,key,text] (λr=>.tuple #[.slice r.P r.m r.c,r.er]) (λr=>YP ⟨#[]⟩ (.slice r.P r.m r.c) 0 false r.er)
 |kc:AnK g id key text 5 121 #[AB g,id] (λr=>.int .i64 r.er) (λr=>YP ⟨#[]⟩ (.slice none 0 0) 0 false r.er)
 |kw:AnK g id key text 6 122 #[AB g] (λr=>.tuple #[r.n,r.dn,r.er]) (λr=>YP ⟨#[]⟩ (.slice none 0 0) r.n r.dn r.er)
def Ahg{g id:Nat}{key l:nG}{n:Int}{F:Nat}{args:Array Value}{r A:Rz->Value}(P:AnK g id key l n F args r A){w:World}{R:Rz->World->World->Prop}{G:Nat->Prop}(e:∀v,v<3->¬G (w+v))
 (u:∀a,η w a->w.heap.size+3=a->Calls prog F args a λc w'=>∃b,c=.returned (r b)/\R b a w'/\Touch G a w'):
 Calls prog 74 #[AB g,.agg #[n,id,key,l]] w λc w'=>∃b,c=.returned (A b)/\ZG w (R b) w':=by
 obtain⟨a,t,o,p,q,i,j⟩:=X8 w n id key l;have C:=Ac t;have z:=Ac (u a i j.symm);obtain⟨V,W,X,Y⟩:=o.p4;obtain⟨x,y,K,E,H,I⟩:=lN p q i j (e 1 U) (e 2 U);clear t u i o p q e j;cases P
 all_goals(go_in)
 all_goals(go_wp2_with(rw[<-C.out]))
 all_goals(go_wp2_with(refine z.out.mono ?_;rintro c T⟨⟨Q,N,S,M,J,m,L⟩,rfl,s,k⟩;have d:=x.touch k H;obtain⟨⟨aw,az,aD,aE,aG⟩,aa,ab,ac,ad,ae⟩:=(y.touch k I).q5;obtain⟨⟨ap,aq,ar,au,av⟩,ah,al,am,an,ao⟩:=d.q5;have B:=Ac s;have D:=Ac d;clear s k d V W X Y;try simp only))
 all_goals(refine Vt (results74) rfl D ?_ rfl (λZ O=>⟨⟨Q,N,S,M,J,m,L⟩,rfl,a,T,K,E,B,O⟩))
 all_goals(repeat'(first|exact mP|exact .inl rfl|refine Touch.setCell ?_ ?_ _))
def lD{g id:Nat}{key j:nG}{k:Int}{F:Nat}{args:Array Value}{d A:Rz->Value}(u:AnK g id key j k F args d A)(r:Rz){w:World}{R:World->World->Prop}{G:Nat->Prop}(q:∀e,e<3->¬G (w+e))
 (s:∀a,η w a->w.heap.size+3=a->Calls prog F args a λc w'=>c=.returned (d r)/\R a w'/\Touch G a w'):
 Calls prog 74 #[AB g,.agg #[k,id,key,j]] w λc w'=>c=.returned (A r)/\ZG w R w':=by
 refine(Ahg u (R:=λi a w'=>i=r/\R a w') q (λa l b=>(s a l b).mono λc w' h=>⟨r,h.1,⟨rfl,h.2.1⟩,h.2.2⟩)).mono ?_;rintro c w'⟨i,t,a,v,m,n,⟨rfl,o⟩,p⟩;exact⟨t,a,v,m,n,o,p⟩
section
variable{w:World}{F:Nat->Prop}{g tt bk:Nat}{b:Bk}{m:Md}
def VO.up{B:Nat}:∀a,VO B a->B<=a:=λ_ h=>h.1
def A1p(h:Ii w F g tt bk b m)(a:Int)(s:a<0\/8<a)(id:Nat)(key l:nG):
 Calls prog 74 #[AB g,.agg #[a,id,key,l]] w λq w'=>q=.returned (YP ⟨#[]⟩ (.slice none 0 0) 0 false 13)/\E8 w F g tt bk b m w':=by
 obtain⟨u,j,d,c,e,k,t⟩:=X8 w a id key l;have o:=Ac j;have U:=d.p1;have t0:(a==0)=false:=ζ O;have t1:(a==1)=false:=ζ O;have t2:(a==2)=false:=ζ O;have t3:(a==3)=false:=ζ O;have t4:(a==4)=false:=ζ O;have t5:(a==5)=false:=ζ O;have t6:(a==6)=false:=ζ O;have t7:(a==7)=false:=ζ O;have t8:(a==8)=false:=ζ O;obtain⟨⟨P,Q,R,S,T⟩,y,z,A,B,C⟩:=e.q5;obtain⟨⟨J,K,L,M,N⟩,D,E,G,H,I⟩:=c.q5;obtain⟨p,i,n⟩:=l9 c k h;clear j k d c e t s h;go_in;go_wp2_with(rw[<-o.out]);go_wp2;refine Vt (results74) rfl p ?_ rfl (λv r=>⟨rfl,n.post m rfl (i.trans (r.below i.size (λx h=>h.1)))⟩)
 repeat'(first|exact mP|exact .inl rfl|refine Touch.setCell ?_ ?_ _)
def A1q(h:Ii w F g tt bk b m)(id:Nat)(key l:nG):
 Calls prog 74 #[AB g,.agg #[.int .i64 8,id,key,l]] w λq w'=>q=.returned (YP ⟨#[]⟩ (.slice none 0 0) 0 false (if m.on.isSome=true then 11 else 0))/\E8 w F g tt bk b m w':=by
 obtain⟨v,k,d,a,e,c,t⟩:=X8 w 8 id key l;have o:=Ac k;have Y:=d.p1;obtain⟨⟨T,U,V,W,X⟩,D,E,G,H,I⟩:=e.q5;obtain⟨⟨O,P,Q,R,S⟩,J,K,L,M,N⟩:=a.q5;obtain⟨A,y,iv,C,z,j,_,_⟩:=(h.below c).box;have u:=j.c2;obtain⟨p,i,n⟩:=l9 a c h;clear k c d a e t j h;cases s:m.on.isSome
 all_goals(rw[s]at u;go_in)
 all_goals(go_wp2_with(rw[<-o.out]))
 all_goals(go_wp2)
 all_goals(refine Vt (results74) rfl p ?_ rfl (λx r=>⟨rfl,n.post m rfl (i.trans (r.below i.size (λB h=>h.1)))⟩))
 all_goals(repeat'(first|exact mP|exact .inl rfl|refine Touch.setCell ?_ ?_ _))
def Att(h:Ii w F g tt bk b m)(id:Nat)(key aa:nG):
 Calls prog 74 #[AB g,.agg #[.int .i64 7,id,key,aa]] w λd w'=>d=.returned (YP ⟨#[]⟩ (.slice none 0 0) 0 false (O8 m id).2)/\E8 w F g tt bk b (O8 m id).1 w':=by
 obtain⟨j,D,k,l,n,x,G⟩:=X8 w 7 id key aa;have N:=Ac D;have q:Ii j (λa=>F a\/VO w a) g tt bk b m:=h.wide x VO.up;have u:=Ac (Ap0 q (id:Int));obtain⟨bb,bc,bd,be⟩:=k.p4;obtain⟨⟨ac,ad,ae,ah,al⟩,V,W,X,Y,Z⟩:=n.q5;obtain⟨aq,bl,bi,am,bj,B,bm⟩:=lQ h q k l n x G;unfold O8;by_cases i:KC m (id:Int)=0
 ·rw[lg (λh=>h i)];rw[i]at u;obtain⟨a0,aM,T,U⟩:=l7 i;rw[BC];obtain rfl:id=a0:=O;obtain⟨c,r⟩:=ε (j.setCell (Δ (w.heap.size+1+1) 4) (.int .i64 0));have t3:Touch (VO w) j c:=by rw[r];exact(Touch.refl (VO w) j).setCell (p:=Δ (w+1+1) 4) (.inl ⟨by show w.heap.size<=w+1+1;omega,by show w.heap.size+1+1<w+3;omega⟩) _
  have y:Cm c (w+2) 40 [.string ⟨#[]⟩,.slice none 0 0,.int .i64 0,false,.int .i64 0]:=by rw[r];exact n.Be 4 (.int .i64 0)
  have I:Touch (·=w+2) j c:=by rw[r];exact(Touch.refl (·=w+2) j).setCell (p:=Δ (w+1+1) 4) (.inl rfl) _
  have J:=k.touch I O;have K:=l.touch I O;have o:Ii c (λa=>F a\/VO w a) g tt bk b m:=q.moved (t3.mono (λ_=>.inr)) (λ_=>.inl);obtain⟨A,bo,iv,br,bq,Q,_,_⟩:=o.box;have av:=Ac (λe(a:η c e)=>Zn (o.below a).tab T U);have aR:=h.lt;have L:Hid (∀e,Touch (·=bk) c e->e.cell? (Δ g 1)=some (AB tt)/\e.cell? (Δ w 1)=some (.int .i64 (id:Int))):=Ac (λe a=>
   ⟨(Q.touch a (λd=>o.neb.1 d.symm)).cell 1,(J.touch a O).cell 1⟩)
  obtain⟨bg,bh⟩:=L c  mP;have bp:=y.p5.2.2.2.2;obtain⟨an,ao,ar,aw⟩:=lL K y o t3;have M:Hid (w+1≠bk/\w+2≠bk):=Ac ⟨O,O⟩;have az:=Ac r;clear h D x k l n G q i T U r t3 y I J K o Q aR aM;go_in;go_wp2_with(rw[<-N.out]);go_wp2_with(refine u.out.ro ?_);rw[<-az.out];clear ac ad ae ah al V W X Y Z bb bc bd be;go_wp2_with fail;go_region_held3(λe=>e.cell? (Δ g 1)=some (AB tt)/\e.cell? (Δ w 1)=some (.int .i64 (id:Int)))
   (first|exact⟨bg,bh⟩|exact L _ ((mD (mX c)).trans H (λ_=>.inl)))
   ((first|(go_at_call 64;refine(av _ (mX c)).mono ?_;rintro d ab⟨rfl,aD,aW,E,R,H⟩)))
  all_goals(
   have s:Touch (·=bk) c ab:=(mD (mX c)).trans H (λ_=>.inl);have z:=an.touch s M.1;obtain⟨⟨ac,ad,ae,ah,al⟩,V,W,X,Y,Z⟩:=(ao.touch s M.2).q5;obtain⟨⟨a6,a7,a8,a9,ba⟩,a1,a2,a3,a4,a5⟩:=z.q5;have ap:=Ac z;have au:Hid (E8 c (λa=>F a\/VO w a) g tt bk b {m with t:=Gv m.t id} ab):=Ac ⟨aD,E,ar.turn R E (s.mono (λ_=>.inl)),s.mono (λ_ d=>.inr (.inl d))⟩;clear s z R H E aW)
  all_goals(go_wp2_with fail)
  all_goals(refine Vt (results74) rfl ap ?_ rfl (λP v=>⟨rfl,(show E8 w F g tt bk b {m with t:=Gv m.t id} P from by
   obtain⟨aE,aG,aI,aL⟩:=au.out;exact⟨aE,aG,aI.moved (v.mono (λ_=>.inr)) (λa d=>.inl (.inl d)),(((mD B).trans aw (λa d=>.inr (VO.up a d))).trans aL (λ_=>.inl)).trans v (λa d=>.inr (VO.up a d))⟩)⟩))
  all_goals(repeat'(first|exact mP|exact .inl rfl|refine Touch.setCell ?_ ?_ _))
 ·rw[kX i];obtain⟨C,S⟩:∃C,KC m (id:Int)=C:=⟨_,rfl⟩;rw[S]at u i⊢;have t1:(C==0)=false:=beq_eq_false_iff_ne.2 i;obtain⟨⟨a6,a7,a8,a9,ba⟩,a1,a2,a3,a4,a5⟩:=l.q5;clear h D x k l n G q i S;go_in;go_wp2_with(rw[<-N.out]);go_wp2_with(refine u.out.ro ?_);refine Vt (results74) rfl am ?_ rfl (λP v=>⟨rfl,aq.post m rfl (B.trans (v.below B.size (λa h=>h.1)))⟩)
  repeat'(first|exact mP|exact .inl rfl|refine Touch.setCell ?_ ?_ _)
def Atu(h:Ii w F g tt bk b m)(aa:m.T.length<=5000)(id:Nat)(key R:nG):
 Calls prog 74 #[AB g,.agg #[.int .i64 0,id,key,R]] w λe w'=>e=.returned (YP ⟨#[]⟩ (.slice none 0 0) (H8 m).2.1 false (H8 m).2.2)/\E8 w F g tt bk b (H8 m).1 w':=by
 obtain⟨d,I,E,x,y,C,ad⟩:=X8 w 0 id key R;have V:=Ac I;have o:Ii d (λa=>F a\/VO w a) g tt bk b m:=h.wide C VO.up;obtain⟨ba,bb,bc,bd⟩:=E.p4;obtain⟨A,Y,iv,aq,an,j,_,v⟩:=o.box;obtain⟨ae,be⟩:=j.p2;have G:=Ac (λc(a:η d c)=>VU (v.below a) Y (by omega:m.T.length<=100000));have z:Hid (∀c,η d c->Calls prog 52 #[AB tt,.int .u64 (m.T.length:Int)] c λe w'=>e=.returned (.tuple #[.int .i64 (H8 m).2.1,.int .i64 (H8 m).2.2])/\∃r Q,(H8 m).1={m with t:=Q}/\r.nt=b.nt/\Hm w' (λa=>(F a\/VO w a)\/a=g) tt bk r Q/\Touch (·=bk) c w'):=Ac (λc a=>by
  have B:=(o.below a).tab;unfold H8;cases L:MM m.t.wt with
  |none=>exact(WE B L _).mono λe w'⟨j,u⟩=>⟨j,b,m.t,rfl,rfl,u▸B,u▸mP⟩
  |some ap=>
   have e:((Az m.T.length).toNat:Int)=(m.T.length:Int):=by rw[Gq (by simp[JU];omega)]
   have N:=zo B L (Az m.T.length);rw[e]at N;exact N.mono λe w'⟨j,r,_,u,_,v,Z⟩=>⟨j,r,_,rfl,u,v,Z⟩)
 obtain⟨aE,M⟩:=ε ((H8 m).2.1);obtain⟨ao,J⟩:=ε ((H8 m).2.2);rw[<-M,<-J]at z⊢;obtain⟨ar,K⟩:=ε m.T.length;rw[<-K]at G z ae;have ac:=h.lt;have H:Hid (w+1≠bk/\w+2≠bk):=Ac ⟨O,O⟩;obtain⟨am,ah,al,X⟩:=lL o x y C;have S:Hid (∀c k:World,∀i t2,(H8 m).1={m with t:=t2}->i.nt=b.nt->Hm k (λa=>(F a\/VO w a)\/a=g) tt bk i t2->Touch (·=bk) d k->E8 d (λa=>F a\/VO w a) g tt bk b (H8 m).1 k):=Ac (λc k i t2 s l t n=>by
  rw[s];exact⟨i,l,o.turn t l (n.mono (λ_=>.inl)),n.mono (λ_ e=>.inr (.inl e))⟩)
 have D:Hid (∀c,Touch (·=bk) d c->Cm c (w+1) 40 [.string ⟨#[]⟩,.slice none 0 0,.int .i64 0,false,.int .i64 0]/\Cm c (w+2) 40 [.string ⟨#[]⟩,.slice none 0 0,.int .i64 0,false,.int .i64 0]):=Ac (λc P=>⟨x.touch P H.1,y.touch P H.2⟩);clear h I C E x y ad o j v M J K ac aa;go_in;go_wp2_with(rw[<-V.out]);go_wp2_with fail;go_region_with(first
  |(go_at_call 117;go_loud(refine(G _ (mX d)).mono ?_;rintro e a4⟨rfl,rfl⟩))
  |(go_at_call 52;go_loud(refine(z _ (mX d)).mono ?_;rintro e q⟨rfl,i,t2,s,l,t,n⟩;have p:Touch (·=bk) d q:=(mD (mX d)).trans n (λ_=>.inl);obtain⟨⟨a5,a6,a7,a8,a9⟩,au,av,aw,az,aD⟩:=(D q p).2.q5;obtain⟨⟨aW,a0,a1,a2,a3⟩,aG,aI,aL,aM,aR⟩:=(D q p).1.q5)))
 all_goals(have U:=Ac (S d q i t2 s l t p);have W:=Ac (D q p).1;clear s l t n p;go_wp2_with fail)
 all_goals(refine Vt (results74) rfl W ?_ rfl (λk ab=>⟨rfl,E8.wrap X VO.up U ab⟩))
 all_goals(repeat'(first|exact mP|exact .inl rfl|refine Touch.setCell ?_ ?_ _))
end
structure JR(m:Md):Prop where
 sets:Jv m.t
 Afi:ry m.T
 dU:A1l m
section
variable{m:Md}
def JR.tab(h:JR m){b:Tb}(j:Jv b)(i:∀a,m.on=some a->b.wt.ops a.1=m.t.wt.ops a.1):JR {m with t:=b}:=
 ⟨j,h.Afi,λa c=>by
  obtain⟨d,e,g⟩:=h.dU a c;exact⟨d,by show b.wt.ops a.1=true;rw[i a c,e],g⟩⟩
def JR.begin(h:JR m):JR (H8 m).1:=by
 unfold H8;cases e:MM m.t.wt with
 |none=>exact h
 |some i=>
  refine h.tab (OV h.sets Vw rfl) λa g=>?_
  have c:=(Xq e).2;have d:a.1≠i:=λb=>by
   have:=(h.dU a g).2.1;rw[b,c]at this;cases this
  exact lg d
def rF{id:Int}(a:KC m id=0):∃b:Nat,id=(b:Int)/\b<8/\m.t.wt.ops b=true/\∀c,m.on=some c->c.1≠b:=by
 obtain⟨b,rfl,d,e⟩:=l7 a;refine⟨b,rfl,d,e,λc i g=>?_⟩;unfold KC at a;rw[kX (Un d e),i]at a;simp only at a;rw[kX (by rw[g])]at a;cases a
def JR.write(h:JR m)(id:Int)(y:Wr):JR (KZ m id y).1:=by
 unfold KZ;split
 ·exact h
 ·rename_i b;obtain⟨a,rfl,c,_⟩:=rF (Decidable.not_not.1 b);obtain⟨g,d,e⟩:=h.sets a c;show JR {m with t:=wrT m.t a y};unfold wrT;split
  ·exact h.tab (OV h.sets ⟨Ω (yM (m.t.sets a) y),Agl d y,iZ e y⟩ rfl) λ_ _=>rfl
  ·exact h
def JR.ends(h:JR m)(i:Nat)(hi:∀a,m.on=some a->a.1≠i):JR {m with t:=Gv m.t i}:=
 h.tab (OV h.sets Vw rfl) λa b=>lg (hi a b)
def JR.abort(h:JR m)(id:Int):JR (O8 m id).1:=by
 unfold O8;split
 ·exact h
 ·rename_i a;obtain⟨c,rfl,_,_,b⟩:=rF (Decidable.not_not.1 a);exact h.ends c b
def JR.Aff(h:JR m)(id:Int):JR (LH m id).1:=by
 unfold LH;split
 ·exact h
 rename_i j;obtain⟨g,rfl,e,k⟩:=IY (t:=m.t.wt) (id:=id) (by simpa using j);split
 ·exact h
 rename_i d;have c:∀i:Nat,∀a,m.on=some a->a.1≠i:=λi a b=>by rw[b]at d;exact absurd rfl d
 split
 ·exact h.ends _ (c _)
 split
 ·exact h.ends _ (c _)
 split
 ·exact h.ends _ (c _)
 obtain⟨l,_,_⟩:=h.sets g e;refine⟨h.sets,h.Afi,λa b=>?_⟩;cases b;exact⟨e,k,Nat.le_add_left 1 _,by show(m.t.sets g).length+1<=1000;omega⟩
def JR.over(h:JR m)(i:Nat):JR (lu m i):=⟨OV h.sets Vw rfl,h.Afi,λb a=>by cases a⟩
def JR.work(h:JR m):JR (FT m).1:=by
 unfold FT;cases j:m.on with
 |none=>exact h
 |some e=>
  obtain⟨c,l⟩:=e;obtain⟨d,g,k,n⟩:=h.dU _ j;simp only at d g k n⊢;split
  ·exact⟨h.sets,h.Afi,λe b=>by cases b;exact⟨d,g,by show 1<=l-1;omega,by show l-1<=1000;omega⟩⟩
  split
  ·exact h.over c
  obtain⟨p,q,_⟩:=h.sets c d;refine⟨λo i=>(h.over c).sets o i,λr a=>?_,λe b=>by cases b⟩;rcases List.mem_append.1 a with a|a
  ·exact h.Afi r a
  ·rw[List.mem_singleton.1 a];exact⟨q,p⟩
def JR.ans(h:JR m)(s:Sp):JR (Jk m s).1:=by
 unfold Jk;split
 ·exact h.begin
 ·exact h.write _ _
 ·exact h.write _ _
 ·exact h
 ·exact h
 ·exact h.Aff _
 ·exact h.work
 ·exact h.abort _
 ·exact h
 ·exact h
def JR.take(h:JR m)(s:Sp)(a:An):JR (GY m s a).1:=by
 unfold GY;split
 ·split
  ·exact h.over _
  ·exact h.ans s
 ·exact h.ans s
def rG(m:Md)(s:Sp):(Jk m s).1.T.length<=m.T.length+1:=by
 unfold Jk;split
 ·unfold H8;split<;>exact Ha _
 ·unfold KZ;split<;>exact Ha _
 ·unfold KZ;split<;>exact Ha _
 ·exact Ha _
 ·exact Ha _
 ·unfold LH
  repeat' split
  all_goals exact Ha _
 ·unfold FT;split
  ·exact Ha _
  ·split
   ·exact Ha _
   split
   ·exact Ha _
   ·simp
 ·unfold O8;split<;>exact Ha _
 ·exact Ha _
 ·exact Ha _
def Afj(m:Md)(s:Sp)(a:An):(GY m s a).1.T.length<=m.T.length+1:=by
 unfold GY;split
 ·split
  ·exact Ha _
  ·exact rG m s
 ·exact rG m s
end
def XA:Md:=⟨[],tb0,none⟩
def Axd:JR XA:=⟨λ_ _=>Vw,λ_ h=>(nomatch h),λ_ h=>by cases h⟩
def Vx(a:Eg):List Sp->List An
 |[]=>[]
 |b::l=>(YG a b).2::Vx (YG a b).1 l
def Abj:∀(l:List Sp)(a:Eg),(Vx a l).length=l.length
 |[],_=>rfl
 |b::l,a=>by rw[Vx,Bg,Bg,Abj l]
def rH:∀(k:Nat)(l:List Sp)(a:Eg),(Vx a l).take k=Vx a (l.take k)
 |0,_,_=>by simp[Vx]
 |k+1,[],_=>by simp[Vx]
 |k+1,b::l,a=>by rw[Vx,Jf,Jf,Vx,rH k]
def Abk(b:Eg)(s:Sp)(l:List Sp):∀a,stP b (s::l) (a+1)=stP (YG b s).1 l a
 |0=>rfl
 |a+1=>by
  rw[stP,Abk b s l a,stP,Ai]
def Abl:∀(l:List Sp)(a:Eg)(k:Nat),k<l.length->(Vx a l)[k]?=some (wu a l k)
 |[],_,_,h=>absurd h (Nat.not_lt_zero _)
 |b::l,a,0,_=>rfl
 |b::l,a,k+1,h=>by
  rw[Vx,Ai,Abl l _ k (by simpa using h)];unfold wu;rw[Ai];cases l[k]? with
  |none=>rfl
  |some c=>rw[Abk]
def XB{L:Nat}(r:List An):∀(l:List Sp){T:List (List Wr)}{a:Eg}(i:Nat),QJ L T a->∃c b,Dt (EY T a) l (Vx a l++r) i=Dt (EY c b) [] r (i+l.length)
 |[],T,a,i,_=>⟨T,a,rfl⟩
 |j::l,T,a,i,h=>by
  obtain⟨k,e,g⟩:=Ak6 h j;obtain⟨c,b,d⟩:=XB r l (i+1) g;refine⟨c,b,?_⟩;rw[Vx,BM,Dt,e,kX rfl,d,Bg,Nat.add_right_comm,JD i l.length 1]
def Afk{L:Nat}{T:List (List Wr)}{a:Eg}(h:QJ L T a)(l:List Sp)(i:Nat):(Dt (EY T a) l (Vx a l) i).2= -1:=by
 obtain⟨d,c,b⟩:=XB [] l i h;rw[EN]at b;rw[b];rfl
def Abm{L:Nat}{T:List (List Wr)}{a:Eg}(h:QJ L T a)(l:List Sp)(x:An):(Dt (EY T a) l (Vx a l++[x]) 0).2=(l.length:Int):=by
 obtain⟨d,c,b⟩:=XB [x] l 0 h;rw[b,Du];rfl
def Ap4{L:Nat}{sh:Sh}(a:L<=1024)(c:shapeOf L=some sh)(key:nG)(b:key.size<=16):wF (st0 sh) key=[]:=MG (Aot a c) b
def Atv{L:Nat}{sh:Sh}(b:L<=1024)(c:shapeOf L=some sh):QJ L [] (eg0 sh):=
 ⟨Aw8 b c,rfl,λ_ h=>(nomatch h),λj i a=>(by cases a),λe _ _ d g=>(by
  show Je (wF (st0 sh) d) e=_;rw[Ap4 b c d g,List.take_nil];rfl),λk a=>(by cases a)⟩
def Abn(sh:Sh):EY [] (eg0 sh)=XA:=rfl
def isC(p:Sp×An):Bool:=(p.1.what==6)&&(p.2.done&&p.2.e==0)
def YI(l:List Sp)(a:List An):Nat:=(l.zip a).countP isC
def rJ{l:List Sp}{a:List An}(h:l.length=a.length)(r:List An):YI l (a++r)=YI l a:=by
 have b:=Aqj (l₁:=l) (r₁:=[]) (l₂:=a) (r₂:=r) h;rw[EN]at b;unfold YI;rw[b];simp
def Atw(l:List Sp)(a:List An)(h:l.length=a.length)(k:Nat):YI (l.take k) a<=YI l a:=by
 have d:(l.take k).length=(a.take k).length:=by rw[Cc,Cc,h]
 have b:=rJ d (a.drop k);rw[DY]at b;have c:=Aqj (l₁:=l.take k) (r₁:=l.drop k) (l₂:=a.take k) (r₂:=a.drop k) d;rw[DY,DY]at c;rw[b];unfold YI;rw[c,Ahl];exact Nat.le_add_right _ _
def Ak9{l:List Sp}{a:List An}{k:Nat}(h1:k<l.length)(h2:k<a.length):((l.zip a).take (k+1)).countP isC=((l.zip a).take k).countP isC+if isC (l[k],a[k])=true then 1 else 0:=by
 have b:k<(l.zip a).length:=by rw[mf];omega
 rw[BH b,Ahl,List.countP_singleton,List.getElem_zip]
def Ap5{l:List Sp}{a:List An}{k:Nat}(h:k=min l.length a.length):((l.zip a).take k).countP isC=YI l a:=by
 rw[h,<-mf,I7];rfl
def anW(x:An)(A:Option Addr)(c:Nat):Value:=.agg #[x.text,.slice A x.pairs.length c,x.n,x.done,x.e]
def Ahh(a b:An)(A B:Option Addr)(c H:Nat)(w:World)(R:a.pairs.length<=1000000)(J:YO w A a.pairs)(K:YO w B b.pairs):
 Calls prog 71 #[anW a A c,anW b B H] w λI w'=>I=.returned (.bool (Hy a b))/\η w w':=by
 obtain⟨s,q,o,v,l⟩:=a;obtain⟨t,r,p,x,m⟩:=b;unfold anW;simp only at J K R⊢;obtain⟨M,D,S,N⟩:=E5 w 40 [s,.slice A q.length c,o,v,l];obtain⟨W,C,L,i⟩:=E5 M 40 [t,.slice B r.length H,p,x,m];have E:=τ S L;have V:M.heap.size=w+1:=by rw[D];simp
 have j:=N.ξ L;rw[V]at i;have aa:=j.c0;have ab:=j.c1;have ac:=j.c2;have ad:=j.c3;have ae:=j.c4;have ah:=i.c0;have al:=i.c1;have am:=i.c2;have an:=i.c3;have ao:=i.c4;obtain⟨u,e,Y,X⟩:=lL (Ase q r A B c H W R (J.below E) (K.below E)) E D C;have d:Hid (Hy ⟨s,q,o,v,l⟩ ⟨t,r,p,x,m⟩=((s.toList==t.toList)&&((o==p)&&((v==x)&&((l==m)&&dM Ll q r))))):=Ac rfl;rw[D]at C;have g:=Ac C;obtain⟨y,O⟩:∃y,(s.toList==t.toList)=y:=⟨_,rfl⟩;obtain⟨z,P⟩:∃z,(o==p)=z:=⟨_,rfl⟩;obtain⟨k,Q⟩:∃k,(l==m)=k:=⟨_,rfl⟩;have T:(s.toList !=t.toList)= !y:=by rw[<-O];rfl
 have U:(o !=p)= !z:=by rw[<-P];rfl
 have F:(l !=m)= !k:=by rw[<-Q];rfl
 rw[O,P,Q]at d;generalize dM Ll q r=Z at*;clear J K C D S L E N i j V;cases y
 case false=>
  simp only[Bool.not_false]at T;go_in;go_wp2_with(rw[<-g.out]);go_wp2;go_ret;exact⟨by rw[d.out];rfl,e⟩
 case true=>
  simp only[Bool.not_true]at T;cases z
  case false=>
   simp only[Bool.not_false]at U;go_in;go_wp2_with(rw[<-g.out]);go_wp2;go_ret;exact⟨by rw[d.out];rfl,e⟩
  case true=>
   simp only[Bool.not_true]at U;cases v<;>cases x
   case true.false=>
    go_in;go_wp2_with(rw[<-g.out]);go_wp2;go_ret;exact⟨by rw[d.out];rfl,e⟩
   case false.true=>
    go_in;go_wp2_with(rw[<-g.out]);go_wp2;go_ret;exact⟨by rw[d.out];rfl,e⟩
   case true.true=>
    cases k
    case false=>
     simp only[Bool.not_false]at F;go_in;go_wp2_with(rw[<-g.out]);go_wp2;go_ret;exact⟨by rw[d.out];rfl,e⟩
    case true=>
     simp only[Bool.not_true]at F;go_in;go_wp2_with(rw[<-g.out]);go_wp2_with(refine u.out.mono ?_;rintro I w'⟨rfl,n⟩;have G:=Ac (e.trans (n.below w));clear n u);go_ret;exact⟨by rw[d.out];rfl,G⟩
   case false.false=>
    cases k
    case false=>
     simp only[Bool.not_false]at F;go_in;go_wp2_with(rw[<-g.out]);go_wp2;go_ret;exact⟨by rw[d.out];rfl,e⟩
    case true=>
     simp only[Bool.not_true]at F;go_in;go_wp2_with(rw[<-g.out]);go_wp2_with(refine u.out.mono ?_;rintro I w'⟨rfl,n⟩;have G:=Ac (e.trans (n.below w));clear n u);go_ret;exact⟨by rw[d.out];rfl,G⟩
section
variable{w:World}{F:Nat->Prop}{g tt bk:Nat}{b:Bk}{m:Md}
def E8.touch{w':World}{a:Md}(h:E8 w F g tt bk b a w'):Touch (M3 g bk b.nt) w w':=by
 obtain⟨_,_,_,c⟩:=h;exact c
def P8(w:World)(F:Nat->Prop)(g tt bk:Nat)(b:Bk)(c:Md)(x:An)(e:Ending)(w':World):Prop:=∃A a,e=.returned (anW x A a)/\YO w' A x.pairs/\E8 w F g tt bk b c w'
def P8.of{w':World}{c:Md}{t:nG}{n:Int}{a:Bool}{er:Int}{e:Ending}(h:e=.returned (YP t (.slice none 0 0) n a er)/\E8 w F g tt bk b c w'):P8 w F g tt bk b c ⟨t,[],n,a,er⟩ e w':=
 ⟨none,0,h.1,YO.nil _,h.2⟩
def P8.one{w':World}{i:Md}{t:nG}{n:Int}{c:Bool}{er:Int}{e:Ending}(h:e=.returned (YP t (.slice none 0 0) n c er)/\ZG w (λa j=>E8 a (λd=>F d\/VO w d) g tt bk b i j) w'):P8 w F g tt bk b i ⟨t,[],n,c,er⟩ e w':=by
 obtain⟨o,a,j,k,_,l,m⟩:=h;exact P8.of ⟨o,E8.wrap k VO.up l m⟩
def Axe(h:Ii w F g tt bk b m)(t:JR m)(i:m.T.length<=5000)(C:∀s,s<3->¬M3 g bk b.nt (w+s))(id:Nat)(key a:nG):
 Calls prog 74 #[AB g,.agg #[.int .i64 4,id,key,a]] w (P8 w F g tt bk b m ⟨⟨#[]⟩,(Pq m id key a).1,0,false,(Pq m id key a).2⟩):=by
 obtain⟨l,o⟩:=ε ((Pq m id key a).1);refine(Ahg .ks (R:=λk c p=>k.er=(Pq m id key a).2/\η c p/\p.ownsRow c 159 2 (.slice k.P k.m k.c) l.length (Ht l)) C (λc j L=>?_)).mono ?_
 ·refine(Axb (h.wide j VO.up) (id:Int) key a t.sets t.Afi i).mono ?_;rintro u w'⟨Q,rfl,d,e⟩;obtain⟨A,n,rfl,_,_⟩:=C9 d;exact⟨⟨0,_,⟨#[]⟩,false,A,_,n⟩,rfl,⟨rfl,e,by rw[o];exact d⟩,mD e⟩
 ·rintro u w'⟨⟨_,K,_,_,A,O,n⟩,rfl,c,p,j,M,⟨r,e,d⟩,i⟩;simp only at r d;subst r;obtain⟨I,J,x,_,D,hF⟩:=Us (F:=λH=>H<c) d (λ_ h=>h);injection x with y z B
  subst y z B;refine⟨A,n,?_,?_,h.post m rfl ((τ j e).trans (i.below (AZ j.size e.size) (λN h=>h.1)))⟩
  ·unfold anW YP;simp only;rw[<-o]
  ·show Rd w' A _ _;simp only;rw[<-o];refine Rd.wo D i (λG q v E=>hF G q v ?_);have:=E.2;show q.block<_;omega
def Ap6(h:Ii w F g tt bk b m)(hF:∀j,F j->j<w)(l:JR m)(q:m.T.length<=5000)(s:Sp)(r:s.key.size<=4294967296)(v:s.text.size<=4294967296):
 Calls prog 74 #[AB g,spV s] w (P8 w F g tt bk b (Jk m s).1 (Jk m s).2):=by
 obtain⟨i,id,k,p⟩:=s;unfold spV Jk;simp only at r v⊢;have H:=h.lt;have o:∀u,u<3->¬M3 g bk b.nt (w+u):=λu _ c=>by
  unfold M3 at c;omega
 have t:∀d:World,w.heap.size+3=d->∀j,F j\/VO w j->j<d:=λd I j c=>c.elim (λc=>Ω (hF j c)) (λc=>Ω c.2)
 split
 ·exact(Atu h q id k p).mono λc w' a=>P8.of a
 ·exact(lD .kp ⟨0,_,⟨#[]⟩,false,none,0,0⟩ o (λd e n=>(Ahf (h.wide e VO.up) (t d n) (id:Int) ⟨k,p,false⟩ l.sets r v).mono λc w' a=>⟨a.1,a.2,a.2.touch⟩)).mono λc w' a=>P8.one a
 ·exact(lD .kd ⟨0,_,⟨#[]⟩,false,none,0,0⟩ o (λd e n=>(Ahf (h.wide e VO.up) (t d n) (id:Int) ⟨k,⟨#[]⟩,true⟩ l.sets r (Bd _)).mono λc w' a=>⟨a.1,a.2,a.2.touch⟩)).mono λc w' a=>P8.one a
 ·exact(lD .kt ⟨0,_,_,false,none,0,0⟩ o (λd e n=>(A1o (h.wide e VO.up) (id:Int) k r l.sets l.Afi q).mono λc w' a=>⟨a.1,(h.wide e VO.up).post m rfl a.2,mD a.2⟩)).mono λc w' a=>P8.one a
 ·exact Axe h l q o id k p
 ·exact(lD .kc ⟨0,_,⟨#[]⟩,false,none,0,0⟩ o (λd e n=>(Ap1 (h.wide e VO.up) (id:Int) l.sets q).mono λc w' a=>⟨a.1,a.2,a.2.touch⟩)).mono λc w' a=>P8.one a
 ·exact(lD .kw ⟨_,_,⟨#[]⟩,_,none,0,0⟩ o (λd e n=>(Aw9 (h.wide e VO.up) (t d n) l.sets l.dU q).mono λc w' a=>⟨a.1,a.2,a.2.touch⟩)).mono λc w' a=>P8.one a
 ·exact(Att h id k p).mono λc w' a=>P8.of a
 ·exact(A1q h id k p).mono λc w' a=>P8.of a
 ·rename_i x y z A B C D E G;refine(A1p h (i:Int) (.inr ?_) id k p).mono λc w' a=>P8.of a
  have J:i≠0:=x;have K:i≠1:=y;have L:i≠2:=z;have M:i≠3:=A;have N:i≠4:=B;have O:i≠5:=C;have P:i≠6:=D;have Q:i≠7:=E;have R:i≠8:=G;omega
end
def Atx{m:Func}{b:World}{j B:Nat}{o q r s t c d e g i v:Value}{n:Array Value}{l:Ending->World->Prop}(x:m.results= #[.cell j 40])(y:n[j]?=some (AB B))(w:Cm b B 40 [o,q,r,s,t])(z:v=.agg #[c,d,e,g,i])
 (h:∀a,Touch (·=B) b a->l (.returned v) a):bodyPost prog m l .ret ⟨n,[]⟩ (((((b.setCell (Δ B 0) c).setCell (Δ B 1) d).setCell (Δ B 2) e).setCell (Δ B 3) g).setCell (Δ B 4) i):=by
 obtain⟨a,k⟩:=ε ((((((b.setCell (Δ B 0) c).setCell (Δ B 1) d).setCell (Δ B 2) e).setCell (Δ B 3) g).setCell (Δ B 4) i));have u:Cm a B 40 [c,d,e,g,i]:=by rw[k];exact((((w.Be 0 _).Be 1 _).Be 2 _).Be 3 _).Be 4 _
 have A:Touch (·=B) b a:=by rw[k];exact(((((Touch.refl (·=B) b).setCell (p:=Δ B 0) (.inl rfl) _).setCell (p:=Δ B 1) (.inl rfl) _).setCell (p:=Δ B 2) (.inl rfl) _).setCell (p:=Δ B 3) (.inl rfl) _).setCell (p:=Δ B 4) (.inl rfl) _
 rw[<-k];obtain⟨u0,u1,u2,u3,u4⟩:=u.p5;subst z;refine bodyPost_ret (v:=.agg #[c,d,e,g,i]) (by simp[results,x,y,go_sem,u0,u1,u2,u3,u4]) rfl ?_;exact h a A
section
variable{w:World}{F:Nat->Prop}{g tt bk:Nat}{b:Bk}{m:Md}
def Axf(h:Ii w F g tt bk b m){o:Nat×Nat}(k:m.on=some o):
 Calls prog 72 #[AB g] w λa w'=>a=.returned (anW (Lm o.1) none 0)/\η w w':=by
 obtain⟨r,j,c,B⟩:=E5 w 40 [.string ⟨#[]⟩,.slice none 0 0,.int .i64 0,.bool false,.int .i64 0];obtain⟨A,t,iv,x,u,e,i,_⟩:=(h.below c).box;obtain⟨p,_⟩:=i _ k;subst p;have G:=e.c3;obtain⟨⟨H,I,J,K,L⟩,y,z,C,D,E⟩:=B.q5;obtain⟨n,l,d⟩:=l9 j B c;clear h j c B e i k;go_in;go_wp2_with(rw[<-n.out]);go_wp2;refine Atx (results72) rfl l rfl (λs q=>⟨rfl,d.trans (q.below d.size (λv a=>IZ a.symm))⟩)
def E8.chain{a d w':World}{c:Md}(m:η w a)(h:E8 a F g tt bk b c d)(k:η d w'):E8 w F g tt bk b c w':=by
 obtain⟨e,n,j,l⟩:=h;exact⟨e,n,j.below k,((mD m).trans l (λ_=>.inl)).trans (mD (F:=λ_=>False) k) (λ_ i=>i.elim)⟩
def Abp{o:Nat×Nat}(c:m.on=some o){s:Sp}(b:s.what=6){a:An}(d:Hy a (Lm o.1)=true):GY m s a=(lu m o.1,true):=by
 unfold GY;rw[c];exact kX ⟨b,d⟩
def Afl{s:Sp}{a:An}(h:∀b,m.on=some b->s.what=6->Hy a (Lm b.1)=false):GY m s a=((Jk m s).1,Hy a (WI m s a)):=by
 unfold GY;split
 ·rename_i b d;exact lg (λc=>by rw[h b d c.1]at c;cases c.2)
 ·rfl
def al5(w:World)(a b c d e:Value):η w (w.alloc (.cells #[a,b,c,d,e] 40))/\Cm (w.alloc (.cells #[a,b,c,d,e] 40)) w 40 [a,b,c,d,e]:=⟨mZ.alloc (Ae _) _,heap_alloc_new _ _⟩
def Aty(h:Ii w F g tt bk b m)(hF:∀q,F q->q<w)(a6:JR m)(br:m.T.length<=5000)(s:Sp)(bB:s.key.size<=4294967296)(bM:s.text.size<=4294967296)(a:An)(A:Option Addr)(c:Nat)(a1:a.pairs.length<=1000000)(bt:YO w A a.pairs)(bl:0<a.pairs.length->∀aq,A=some aq->¬M3 g bk b.nt aq.block):
 Calls prog 35 #[AB g,spV s,anW a A c] w λo w'=>o=.returned (.bool (GY m s a).2)/\E8 w F g tt bk b (GY m s a).1 w':=by
 obtain⟨bi,aW,bw,P⟩:=E5 w 46 [.int .i64 (s.what:Int),.int .i64 (s.id:Int),.string s.key,.string s.text];obtain⟨k,aR,a0,aa⟩:=E5 bi 40 [.string a.text,.slice A a.pairs.length c,.int .i64 a.n,.bool a.done,.int .i64 a.e];have bL:bi.heap.size=w+1:=by rw[aW];simp
 have U:=τ bw a0;have P:=P.ξ a0;rw[bL]at aa;rw[aW]at aR;have ci:=h.lt;have bO:¬M3 g bk b.nt w:=λo=>by unfold M3 at o;omega
 have bQ:¬M3 g bk b.nt (w+1):=λo=>by unfold M3 at o;omega
 have an:=h.below U;have ab:=Ac (λd(q:η k d)=>Ap6 (an.below q) (λcl ck=>Bc (hF cl ck) (AZ U.size q.size)) a6 br s bB bM);have bg:Hid (WI m s a=if s.what=8/\(Jk m s).2.e=0 then{(Jk m s).2 with n:=a.n}else(Jk m s).2):=Ac rfl;have bo:∀d,Touch (M3 g bk b.nt) k d->YO d A a.pairs:=λd X=>Rd.wo (Rd.below bt U) X (λcv aq o=>bl O aq o)
 obtain⟨aI,ae,az,bh,J,aD⟩:=lN bo (λd(X:Touch (M3 g bk b.nt) k d)=>P.touch X bO) (λd(X:Touch (M3 g bk b.nt) k d)=>aa.touch X bQ) U aR an;obtain⟨b3,b4,b5,b6⟩:=P.p4;obtain⟨b7,b8,b9,ca,cb⟩:=aa.p5;obtain⟨cm,ct,iv,cw,cu,K,_,_⟩:=an.box;have am:=K.c2;have bb:=Ac a6.dU;have cn:=Ac h;clear h hF a6 br bB bM bt bl aW bw a0 aR bL U ci bO bQ an bo K P aa;obtain⟨au,a3⟩:=ε ((Jk m s).2);obtain⟨a5,a2⟩:=ε ((Jk m s).1);have bc:Hid ((∀j,m.on=some j->s.what=6->Hy a (Lm j.1)=false)->GY m s a=(a5,Hy a (if s.what=8/\au.e=0 then{au with n:=a.n}else au))):=Ac (λcj=>by
  rw[Afl cj,bg.out,a2,a3])
 rw[<-a3,<-a2]at ab;clear bg a3 a2;obtain⟨p,id,W,Y⟩:=s;obtain⟨y,x,r,u,v⟩:=a;obtain⟨aw,Z,b2,av,H⟩:=au;have ab:Hid (∀d,η k d->Calls prog 74 #[AB g,.agg #[.int .i64 (p:Int),.int .i64 (id:Int),.string W,.string Y]] d λo w'=>∃M al,o=.returned (.agg #[.string aw,.slice M Z.length al,.int .i64 b2,.bool av,.int .i64 H])/\YO w' M Z/\E8 d F g tt bk b a5 w'):=ab;have cc:Hid ((∀j,m.on=some j->p=6->Hy ⟨y,x,r,u,v⟩ (Lm j.1)=false)->∀e,e=(if(((p:Int)==8)&&(H==0))=true then r else b2)->GY m ⟨p,id,W,Y⟩ ⟨y,x,r,u,v⟩=(a5,Hy ⟨y,x,r,u,v⟩ ⟨aw,Z,e,av,H⟩)):=Ac (λK e ce=>by
  have o:((((p:Int)==8)&&(H==0))=true)=(p=8/\H=0):=by
   rw[Bool.and_eq_true,beq_iff_eq,beq_iff_eq];exact propext ⟨λh=>⟨O,h.2⟩,λh=>⟨O,h.2⟩⟩
  rw[bc K,ce];simp only[o];split<;>rfl)
 have J:Hid (k=(w.alloc (.cells #[.int .i64 (p:Int),.int .i64 (id:Int),.string W,.string Y] 46)).alloc (.cells #[.string y,.slice A x.length c,.int .i64 r,.bool u,.int .i64 v] 40)):=J;simp only at a1 aI ae az b3 b4 b5 b6 b7 b8 b9 ca cb;clear bc;have ah:Hid (∀d,η k d->d.cell? (Φ w)=some (.int .i64 (p:Int))/\d.cell? (Δ w 1)=some (.int .i64 (id:Int))/\d.cell? (Δ w 2)=some (.string W)/\d.cell? (Δ w 3)=some (.string Y)):=Ac (λd q=>(ae d (mD q)).p4);have cg:(∃j,m.on=some j/\p=6)\/(m.on=none/\p=6)\/p≠6:=by
  by_cases z:p=6
  ·cases B:m.on with
   |none=>exact .inr (.inl ⟨rfl,z⟩)
   |some j=>exact .inl ⟨j,rfl,z⟩
  ·exact .inr (.inr z)
 unfold anW spV;rcases cg with⟨j,B,z⟩|⟨B,z⟩|z
 case' inl=>
  have t6:((p:Int)==6)=true:=by rw[z];rfl
  have ac:=Ac (λd(q:η k d)=>Axf (aD.below q) B);have G:=Ac (λd(q:η k d)=>Ahh ⟨y,x,r,u,v⟩ (Lm j.1) A none c 0 d a1 (aI d (mD q)) (YO.nil d));obtain⟨ar,ao⟩:=ε (Hy ⟨y,x,r,u,v⟩ (Lm j.1));rw[<-ao]at G;have ba:=Ac (λd(q:η k d)=>Auz (aD.below q) (i:=j.1) (l:=j.2) B (bb j B).1 (bb j B).2.1);have bd:Hid (ar=true->GY m ⟨p,id,W,Y⟩ ⟨y,x,r,u,v⟩=(lu m j.1,true)):=Ac (λo=>Abp B z (by rw[<-ao];exact o));have be:Hid (ar=false->∀j,m.on=some j->p=6->Hy ⟨y,x,r,u,v⟩ (Lm j.1)=false):=Ac (λo bR V _=>by rw[B]at V;cases V;rw[<-ao];exact o);have ad:Hid (∀d,η k d->d.cell? (Φ w)=some (.int .i64 (p:Int))/\d.cell? (Δ g 2)=some (.bool true)/\d.cell? (Φ (w+1))=some (.string y)/\d.cell? (Δ (w+1) 1)=some (.slice A x.length c)/\d.cell? (Δ (w+1) 2)=some (.int .i64 r)/\d.cell? (Δ (w+1) 3)=some (.bool u)/\d.cell? (Δ (w+1) 4)=some (.int .i64 v)):=Ac (λd q=>by
   have N:=ae d (mD q);have E:=az d (mD q);obtain⟨_,_,_,_,_,K,_,_⟩:=(aD.below q).box;have bj:=K.cell 2;rw[B]at bj;exact⟨N.cell 0,bj,E.cell 0,E.cell 1,E.cell 2,E.cell 3,E.cell 4⟩)
  have bq:=ad k  mZ;unfold anW Lm at ac G;simp only at ac G;clear B am ao z;go_in;go_wp2_with fail;rw[<-J.out];refine wp_region_held_drew (S:=(λd=>d.cell? (Φ w)=some (.int .i64 (p:Int))/\d.cell? (Δ g 2)=some (.bool true)/\d.cell? (Φ (w+1))=some (.string y)/\d.cell? (Δ (w+1) 1)=some (.slice A x.length c)/\d.cell? (Δ (w+1) 2)=some (.int .i64 r)/\d.cell? (Δ (w+1) 3)=some (.bool u)/\d.cell? (Δ (w+1) 4)=some (.int .i64 v))) Γ bq (λt=>?_);refine MW 0 (.pointer (some (Φ w))) t ?_;refine MW 1 (.int .i64 (p:Int)) t (hy:=λw R=>by obtain⟨a7,bS,bV,bW,bX,bY,b0⟩:=R;go_simp) ?_;refine MW 2 (.bool true) t ?_
  try simp only[Act.put,Au,Ak,Aj,Ah,Aq,Aw]
  refine MW 3 (.bool true) t ?_;refine MW 4 (AB g) t ?_;refine MW 5 (AB g) t ?_
  try simp only[Act.put,Au,Ak,Aj,Ah,Aq,Aw]
  refine MW 6 (.pointer (some (Δ g 2))) t ?_
  try simp only[Act.put,Au,Ak,Aj,Ah,Aq,Aw]
  refine MW 7 (.bool true) t (hy:=λw R=>by obtain⟨a7,bS,bV,bW,bX,bY,b0⟩:=R;go_simp) ?_;refine MW 8 (.bool true) t ?_
  try simp only[Act.put,Au,Ak,Aj,Ah,Aq,Aw]
  refine MW 9 (.bool true) t ?_
  try simp only[Act.put,Au,Ak,Aj,Ah,Aq,Aw]
  refine MW 10 (.agg #[.string y,.slice A x.length c,.int .i64 r,.bool u,.int .i64 v]) t (hy:=λw R=>by obtain⟨a7,bS,bV,bW,bX,bY,b0⟩:=R;go_simp) ?_;refine MW 11 (AB g) t ?_
  try simp only[Act.put,Au,Ak,Aj,Ah,Aq,Aw]
  refine wpAnyH_ready (rs:=[12]) Γ Θ ?_;refine AllReadyH.cons rfl (λaG Q=>?_) AllReadyH.nil;go_simp;go_at_call 72;refine(ac _ (mX k)).mono ?_;rintro o b1⟨rfl,bx⟩;have ap:=((Dr.drew k).below k).trans (bx.mono ((Dr.drew k).below k).size);refine Q.out _ _ (ad b1 ap) (λt=>?_);clear Q aG
  try simp only[Act.put,Au,Ak,Aj,Ah,Aq,Aw]
  refine wpAnyH_ready (rs:=[13]) Γ Θ ?_;refine AllReadyH.cons rfl (λaG Q=>?_) AllReadyH.nil;go_simp;go_at_call 71;refine(G b1 ap).mono ?_;rintro o a8⟨rfl,bA⟩;have a4:=τ ap bA;refine Q.out _ _ (ad a8 a4) (λt=>?_);clear Q aG
  try simp only[Act.put,Au,Ak,Aj,Ah,Aq,Aw]
  refine MW 14 (.bool ar) t ?_
  try simp only[Act.put,Au,Ak,Aj,Ah,Aq,Aw]
  refine wpAnyH_done Γ ?_ _;have D:=Ac a4;clear ap a4 bx bA t bq ac G;obtain⟨u0,u1,u2,u3⟩:=ah _ D;cases ar
  case true=>
   go_wp2_with(refine(ba.out _ D).mono ?_;rintro o L⟨rfl,bm⟩;have aE:Hid (E8 w F g tt bk b (lu m j.1) L):=Ac (bm.chain (τ bh.out D.out)  mZ);clear bm);go_ret;have bs:=bd (by first|rfl|trivial);exact⟨by rw[bs];rfl,by rw[bs];exact aE⟩
  have aL:Hid (∀j,m.on=some j->p=6->Hy ⟨y,x,r,u,v⟩ (Lm j.1)=false):=Ac (be (by first|rfl|trivial));clear bd be ba ad
 case' inr.inl=>
  have t6:((p:Int)==6)=true:=by rw[z];rfl
  rw[B]at am;have am:k.cell? (Δ g 2)=some (.bool false):=am;have aL:Hid (∀j,m.on=some j->p=6->Hy ⟨y,x,r,u,v⟩ (Lm j.1)=false):=Ac (λbR V _=>by rw[B]at V;cases V);clear B z;go_in;go_wp2_with fail;rw[<-J.out];go_quiet(fail);have D:Hid (η k (k.drewN nq)):=Ac ((Dr.one _ nq).below _);obtain⟨u0,u1,u2,u3⟩:=ah _ D;generalize k.drewN nq=a8 at*
 case' inr.inr=>
  have t6:((p:Int)==6)=false:=ζ O;have aL:Hid (∀j,m.on=some j->p=6->Hy ⟨y,x,r,u,v⟩ (Lm j.1)=false):=Ac (λbR _ o=>absurd o z);clear z;go_in;go_wp2_with fail;rw[<-J.out];go_quiet(fail);have D:Hid (η k (k.drewN nq)):=Ac ((Dr.one _ nq).below _);obtain⟨u0,u1,u2,u3⟩:=ah _ D;generalize k.drewN nq=a8 at*
 all_goals(clear b3 b4 b5 b6 b7 b8 b9 ca cb J ah;go_wp2_with fail)
 all_goals(refine(ab _ D).mono ?_)
 all_goals(
  rintro o L⟨M,al,rfl,bE,aM⟩;have t8:Touch (M3 g bk b.nt) k L:=(mD D).trans aM.touch (λ_=>.inl);have N:=ae L t8;have E:=az L t8;have C:=λe=>al5 L (.string aw) (.slice M Z.length al) (.int .i64 e) (.bool av) (.int .i64 H)
  have a7:=λe=>(N.below (C e).1 N.lt).c0
  have I:=λe=>E.below (C e).1 E.lt
  have co:=λe=>(I e).c0
  have cp:=λe=>(I e).c1
  have cq:=λe=>(I e).c2
  have cr:=λe=>(I e).c3
  have cs:=λe=>(I e).c4
  have cz:=λe=>(C e).2.c0
  have cA:=λe=>(C e).2.c1
  have cB:=λe=>(C e).2.c2
  have cC:=λe=>(C e).2.c3
  have cD:=λe=>(C e).2.c4
  have cx:=λe=>(C e).2.frozen 2
  obtain⟨G,cd,a9⟩:=l9 (λe=>Ahh ⟨y,x,r,u,v⟩ ⟨aw,Z,e,av,H⟩ A M c al _ a1 (aI _ (t8.trans (mD (F:=λ_=>False) (C e).1) (λ_ o=>o.elim))) (Rd.below bE (C e).1)) (E8.chain (τ bh.out D.out) aM  mZ) C;unfold anW at G;simp only at G;clear C I bE aM t8 N E u0 u1 u2 u3)
 all_goals(cases cf:((p:Int)==8)<;>cases ch:(H==0))
 all_goals(go_wp2_with fail)
 all_goals(refine(G _).mono ?_)
 all_goals(
  rintro o cy⟨rfl,bN⟩;have aE:=Ac (cd.chain  mZ ((a9 _).1.trans (bN.mono (a9 _).1.size)));clear bN)
 all_goals(go_wp2)
 all_goals(go_ret)
 all_goals(
  have bp:=cc aL _ (by rw[cf,ch]);exact⟨by rw[bp];rfl,by rw[bp];exact aE⟩)
end
def AnQ(w:World)(a:Av)(x:An):Prop:=a.t=x.text/\a.n=x.n/\a.d=x.done/\a.e=x.e/\x.pairs.length<=1000000/\∃A b,a.ps=.slice A x.pairs.length b/\YO w A x.pairs
structure lV(w:World)(A:Option Addr)(az:List Av)(ys:List An):Prop where
 len:az.length=ys.length
 row:Rd w A (az.length*5) (PN az)
 one:∀k(h:k<az.length)(h2:k<ys.length),AnQ w az[k] ys[k]
section
variable{w w':World}
def AnQ.below{a:Av}{x:An}(h:AnQ w a x)(k:η w w'):AnQ w' a x:=by
 obtain⟨c,d,e,g,i,A,b,j,l⟩:=h;exact⟨c,d,e,g,i,A,b,j,Rd.below l k⟩
def lV.below{A:Option Addr}{az:List Av}{ys:List An}(h:lV w A az ys)(k:η w w'):lV w' A az ys:=
 ⟨h.len,Rd.below h.row k,λb a h2=>(h.one b a h2).below k⟩
def lV.at{A:Option Addr}{az:List Av}{ys:List An}(h:lV w A az ys)(k:Nat)(g:k<ys.length):∃b a B e,A=some (Δ b a)/\b<w/\w.cell? (Δ b (a+k*5))=some (.string ys[k].text)/\w.cell? (Δ b (a+k*5+1))=some (.slice B ys[k].pairs.length e)/\
 w.cell? (Δ b (a+k*5+2))=some (.int .i64 ys[k].n)/\w.cell? (Δ b (a+k*5+3))=some (.bool ys[k].done)/\w.cell? (Δ b (a+k*5+4))=some (.int .i64 ys[k].e)/\YO w B ys[k].pairs/\ys[k].pairs.length<=1000000/\(az[k]'(by rw[h.len];exact g)).ps=.slice B ys[k].pairs.length e:=by
 have j:k<az.length:=by rw[h.len];exact g
 obtain⟨b,a,l,t,u⟩:=h.row.2 O;obtain⟨m,o,p,q,r,B,e,i,s⟩:=h.one k j g;have c:∀d,d<5->w.cell? (Δ b (a+k*5+d))=(avC az[k])[d]?:=λd v=>by
  rw[JD,u (k*5+d) O];exact flat_get avC 5 (λ_=>rfl) az k d j v
 unfold avC at c;rw[m,o,p,q,i]at c;exact⟨b,a,B,e,l,t,c 0 U,c 1 U,c 2 U,c 3 U,c 4 U,s,r,i⟩
def E8.Axg{a:World}{F:Nat->Prop}{g tt bk:Nat}{b:Bk}{c:Md}(h:E8 a F g tt bk b c w')(d:η w a):E8 w F g tt bk b c w':=E8.chain d h  mZ
def Afm(m:Md)(l:List Sp)(ys:List An)(k:Nat)(b:k=min l.length ys.length):Dt m (l.drop k) (ys.drop k) k=(m,if l.length=ys.length then-1 else(k:Int)):=by
 by_cases h:l.length=ys.length
 ·rw[kX h,NI O,NI O];rfl
 ·rw[lg h];by_cases a:l.length<ys.length
  ·rw[NI (by omega:l.length<=k),BX (by omega:k<ys.length)];rfl
  ·rw[NI (by omega:ys.length<=k),BX (by omega:k<l.length)];rfl
def drop_at{a:Type}{l:List a}{k:Nat}(h:k<l.length):l.drop k=l[k]::l.drop (k+1):=BX h
def lF(l:List Sp)(ys:List An)(w:World)(e:Ending)(w':World):Prop:=∃g tt bk b,e=.returned (.tuple #[AB g,.int .i64 (Dt XA l ys 0).2])/\Ii w' (λ_=>False) g tt bk b (Dt XA l ys 0).1/\η w w'
def lF.of{l:List Sp}{ys:List An}{e:Ending}{g tt bk:Nat}{b:Bk}{m:Md}{r:Int}(a:Dt XA l ys 0=(m,r))(h1:e=.returned (.tuple #[AB g,r]))(h2:Ii w' (λ_=>False) g tt bk b m)(h3:η w w'):lF l ys w e w':=by
 unfold lF;rw[a];exact⟨g,tt,bk,b,h1,h2,h3⟩
def Abq(l:List Sp)(az:List Av)(ys:List An)(A B:Option Addr)(c bO:Nat)(w:World)(bW:l.length<=4000)(bl:∀Q∈l,Q.key.size<=4294967296/\Q.text.size<=4294967296)(h:lU w A l)(bg:lV w B az ys):
 Calls prog 18 #[.slice A l.length c,.slice B ys.length bO] w (lF l ys w):=by
 have aL:=Ac (An1 (λ_=>False) w (λ_ h=>h.elim));obtain⟨o,N⟩:=ε (min l.length ys.length);have bY:o<=l.length:=by rw[N];exact lJ _ _
 have b0:o<=ys.length:=by rw[N];exact Uu _ _
 have bt:Hid (∀s,η w s->lU s A l):=Ac (λs a=>Rd.below h a);have bq:=Ac (λs(a:η w s)=>bg.below a);have bw:=Ac bl;have bm:Hid (o=min l.length ys.length):=Ac N;obtain⟨q,ao⟩:=ε l.length;obtain⟨p,an⟩:=ε ys.length;have aR:=Ac ao;have aM:=Ac an;have ck:min (q:Int) (p:Int)=(o:Int):=O;have av:(if(p:Int)<(q:Int)then(p:Int)else(q:Int))=(o:Int):=by split<;>omega
 have cl:(if p<q then(p:Int)else(q:Int))=(o:Int):=by split<;>omega
 rw[<-ao]at bW bY⊢;rw[<-an]at b0⊢;clear h bg bl N ao an;go_in;go_wp2_with fail;refine aL.mono ?_;rintro e r⟨tt,bk,z,rfl,ce,cf,cg,bd,ah⟩;obtain⟨s,be,al,aG⟩:=E5 r 66 [.slice none 0 0,AB tt,false,.int .i64 0,.int .i64 0];have cc:w.heap.size<=r:=ah.size;have a8:Ii s (λ_=>False) r tt bk (bk0 z) XA:=by
  have bo:Hm s (λa=>False\/a=r) tt bk (bk0 z) tb0:=bd.moved ⟨mD al,λa e=>e.elim (λe=>e.elim) (λe=>.inr O)⟩;exact⟨⟨none,0,0,0,[],aG,λcm e=>(by cases e),⟨rfl,⟨⟨rfl,λh=>absurd h Θ⟩,λ_ a2 e=>(by cases e)⟩,λa h=>absurd h Θ⟩⟩,bo,λe=>e⟩
 obtain⟨bs,br,bx⟩:=l9 a8 (τ ah al) be;clear bd ah al aG a8 be aL;go_wp2_with(rw[<-bx.out]);go_wp2_with fail;go_loopw [18](λar wr=>∃(a:Nat)(b:Bk)(m:Md),a<=o/\ar=.int .i64 (a:Int)/\b.nt=z/\Ii wr (λ_=>False) r tt bk b m/\JR m/\m.T.length<=a/\Dt XA l ys 0=Dt m (l.drop a) (ys.drop a) a/\η w wr)(λar _=>o-(intOf ar).toNat)
 case atStart=>exact⟨0,bk0 z,XA,Bd _,rfl,rfl,bs,Axd,Ae _,rfl,br⟩
 case round=>
  obtain⟨a,b,m,cd,rfl,x,a7,ba,bc,a6,a3⟩:=hrel;obtain⟨aa,aD,aW,Z,t,W⟩:=lN a7 ba bc a6 a3 x;clear a7 ba bc a6 a3 x;by_cases bX:a<o
  ·have am:a<l.length:=Ω aR.out;have bh:a<ys.length:=Ω aM.out;obtain⟨j,n,rfl,R,C,D,E,F⟩:=(bt w  mZ).at a am;obtain⟨g,i,V,ac,rfl,y,G,H,I,J,K,ae,bb,bS⟩:=(bq w  mZ).at a bh;have b2:=XH bX;have ci:=XH (show a<q by omega);have cj:=XH (show a<p by omega);have ch:=XI a O;have aq:=bw _ (BO am);have v:=Ac (λbA(k:η wr bA)=>Aty (aa.below k) (λ_ e=>e.elim) aD (Ω aW.out) l[a] aq.1 aq.2 ys[a] V ac bb (Rd.below (Rd.below ae t) k) (λca co e bi=>by
    obtain⟨ab,cn,M,cb,_⟩:=ae.2 O;rw[e]at M;cases M;unfold M3 at bi;have:=W.out;have:ab=r\/ab=bk\/ab=b.nt:=bi;omega))
   have L:Hid (∀d,η w d->(d.cell? (Δ j (n+a*4))=some (.int .i64 (l[a].what:Int))/\d.cell? (Δ j (n+a*4+1))=some (.int .i64 (l[a].id:Int))/\d.cell? (Δ j (n+a*4+2))=some (.string l[a].key)/\d.cell? (Δ j (n+a*4+3))=some (.string l[a].text))/\
    d.cell? (Δ g (i+a*5))=some (.string ys[a].text)/\d.cell? (Δ g (i+a*5+1))=some (.slice V ys[a].pairs.length ac)/\d.cell? (Δ g (i+a*5+2))=some (.int .i64 ys[a].n)/\d.cell? (Δ g (i+a*5+3))=some (.bool ys[a].done)/\d.cell? (Δ g (i+a*5+4))=some (.int .i64 ys[a].e)):=Ac (λd k=>
    ⟨⟨(k.cell (p:=Δ j (n+a*4)) R).trans C,(k.cell (p:=Δ j (n+a*4+1)) R).trans D,(k.cell (p:=Δ j (n+a*4+2)) R).trans E,(k.cell (p:=Δ j (n+a*4+3)) R).trans F⟩,
      (k.cell (p:=Δ g (i+a*5)) y).trans G,(k.cell (p:=Δ g (i+a*5+1)) y).trans H,(k.cell (p:=Δ g (i+a*5+2)) y).trans I,(k.cell (p:=Δ g (i+a*5+3)) y).trans J,(k.cell (p:=Δ g (i+a*5+4)) y).trans K⟩)
   have S:Hid (∀au w',E8 wr (λ_=>False) r tt bk b au w'->η w w'/\∃u,u.nt=z/\Ii w' (λ_=>False) r tt bk u au):=Ac (λau w'⟨u,bQ,bR,M⟩=>⟨t.trans (M.below t.size (λaw b1=>by
    have:=W.out;have:aw=r\/aw=bk\/aw=b.nt:=b1;omega)),u,bQ.trans W,bR⟩)
   have ad:Hid (Dt XA l ys 0=if(GY m l[a] ys[a]).2=true then Dt (GY m l[a] ys[a]).1 (l.drop (a+1)) (ys.drop (a+1)) (a+1)else((GY m l[a] ys[a]).1,(a:Int))):=Ac (by rw[Z.out,drop_at am,drop_at bh,Dt]);have aE:=Ac (aD.take l[a] ys[a]);have a0:=Ac (Afj m l[a] ys[a]);unfold spV anW at v;generalize GY m l[a] ys[a]=b8 at*;obtain⟨av,b3⟩:=b8;simp only at v ad aE a0;generalize l[a]=Q at*;generalize ys[a]=a2 at*;obtain⟨b4,b5,b6,b7⟩:=Q;obtain⟨bB,bE,bL,bM,bN⟩:=a2;simp only at v L;clear C D E F G H I J K ae bb bS aq aD;obtain⟨⟨C,D,E,F⟩,G,H,I,J,K⟩:=L wr t;cases b3
   all_goals(go_wp2_with fail)
   all_goals(go_region_held3(λd=>(d.cell? (Δ j (n+a*4))=some (.int .i64 (b4:Int))/\d.cell? (Δ j (n+a*4+1))=some (.int .i64 (b5:Int))/\d.cell? (Δ j (n+a*4+2))=some (.string b6)/\d.cell? (Δ j (n+a*4+3))=some (.string b7))/\
    d.cell? (Δ g (i+a*5))=some (.string bB)/\d.cell? (Δ g (i+a*5+1))=some (.slice V bE.length ac)/\d.cell? (Δ g (i+a*5+2))=some (.int .i64 bL)/\d.cell? (Δ g (i+a*5+3))=some (.bool bM)/\d.cell? (Δ g (i+a*5+4))=some (.int .i64 bN))
    (first|exact⟨⟨C,D,E,F⟩,G,H,I,J,K⟩|exact L _ (S _ _ ap).1)
    ((first|(go_at_call 35;refine(v _ (mX wr)).mono ?_;rintro e b9⟨rfl,bj⟩;have ap:E8 wr (λ_=>False) r tt bk b av b9:=bj.Axg (mX wr)))))
   all_goals(
    obtain⟨a4,u,x,a9⟩:=S _ _ ap;obtain⟨aI,a1,bp⟩:=l9 a4 a9 x;clear a4 a9 x ap bj C D E F G H I J K v L S)
   next=>
    go_wp2;go_ret2;have a5:=ad.out;rw[lg U]at a5;exact lF.of a5 rfl a1 aI
   next=>
    go_wp2;exact⟨⟨a+1,u,av,O,by go_num,bp,a1,aE,Ψ a0.out aW.out,by rw[ad.out,kX (by first|rfl|trivial)],aI⟩,mz⟩
  ·have bV:a=o:=O;subst bV;have b2:=wO (show¬a<a by omega);have X:=Ac (Afm m l ys a bm);rw[<-aR.out,<-aM.out]at X;by_cases P:q=p
   ·have Y:Hid (Dt XA l ys 0=(m,-1)):=Ac (by rw[Z.out,X.out,kX P]);subst P;go_wp2;go_ret2;exact lF.of Y rfl aa t
   ·have Y:Hid (Dt XA l ys 0=(m,(a:Int))):=Ac (by rw[Z.out,X.out,lg P]);have t1:((q:Int)!=(p:Int))=true:=by rw[bne_iff_ne];omega
    have t2:((q:Int)==(p:Int))=false:=ζ O;have t3:(q==p)=false:=ζ P;go_wp2;go_ret2;exact lF.of Y rfl aa t
end
section
variable{w:World}{l:List Sp}{az:List Av}{ys:List An}{A B:Option Addr}
def wG(c d:Nat)(q:l.length<=4000)(j:∀k∈l,k.key.size<=4294967296/\k.text.size<=4294967296)(h:lU w A l)(e:lV w B az ys):
 Calls prog 9 #[.slice A l.length c,.slice B ys.length d] w λa w'=>a=.returned (.int .i64 (Dt XA l ys 0).2)/\η w w':=by
 have o:Hid (Calls prog 18 #[.slice A l.length c,.slice B ys.length d] w λa w'=>∃g tt bk b,a=.returned (.tuple #[AB g,.int .i64 (Dt XA l ys 0).2])/\Ii w' (λ_=>False) g tt bk b (Dt XA l ys 0).1/\η w w'):=Ac (Abq l az ys A B c d w q j h e);generalize l.length=r at*;generalize ys.length=m at*;clear h e j;go_in;go_wp2_with(refine o.out.mono ?_;rintro a s⟨g,tt,bk,b,rfl,p,i⟩;have n:=Ac i;clear p i);go_ret;exact⟨rfl,n⟩
def YJ(c q:Nat)(E:l.length<=4000)(x:∀y∈l,y.key.size<=4294967296/\y.text.size<=4294967296)(h:lU w A l)(t:lV w B az ys):
 Calls prog 8 #[.slice A l.length c,.slice B ys.length q] w λd w'=>∃z,d=.returned (.tuple #[z,.bool (decide ((Dt XA l ys 0).2<0))])/\
  ((Dt XA l ys 0).2<0->∃i p o C,z=.slice i (Dt XA l ys 0).1.T.length o/\rq w' C i p (Dt XA l ys 0).1.T)/\η w w':=by
 have j:Hid (Calls prog 18 #[.slice A l.length c,.slice B ys.length q] w λd w'=>∃g tt bk b,d=.returned (.tuple #[AB g,.int .i64 (Dt XA l ys 0).2])/\Ii w' (λ_=>False) g tt bk b (Dt XA l ys 0).1/\η w w'):=Ac (Abq l az ys A B c q w E x h t);obtain⟨F,v⟩:=ε (Dt XA l ys 0);rw[<-v]at j⊢;obtain⟨m,a⟩:=F;simp only at j⊢;generalize l.length=J at*;generalize ys.length=K at*;clear h t x v;by_cases e:a<0
 ·have t1:=dF (a>=0);have t2:=dF (0<=a);have t3:=dT (a<0) e;rw[t3];go_in;go_wp2_with(refine j.out.mono ?_;rintro d G⟨g,tt,bk,b,rfl,k,e⟩;obtain⟨i,o,iv,I,p,r,_,s⟩:=k.box;have H:=r.cell 0;simp only[Af]at H;have n:=Ac e;have D:=Ac s;clear k e r s);go_ret2;exact⟨_,rfl,λ_=>⟨i,p,o,_,rfl,D⟩,n⟩
 ·have t1:=dT (a>=0);have t2:=dT (0<=a);have t3:=dF (a<0) e;rw[t3];go_in;go_wp2_with(refine j.out.mono ?_;rintro d G⟨g,tt,bk,b,rfl,k,u⟩;have n:=Ac u;clear k u);go_ret2;exact⟨_,rfl,λh=>absurd h O,n⟩
def Tm(c C:Nat)(G:l.length<=4000)(h:lU w A l)(q:lV w B az ys):
 Calls prog 10 #[.slice A l.length c,.slice B ys.length C] w λD w'=>D=.returned (.int .i64 (YI l ys:Int))/\w=w':=by
 obtain⟨b,d⟩:=ε (min l.length ys.length);have I:b<=l.length:=by rw[d];exact lJ _ _
 have J:b<=ys.length:=by rw[d];exact Uu _ _
 obtain⟨y,t,u,P⟩:=lL h q (Ap5 d) d;obtain⟨g,k⟩:=ε l.length;obtain⟨e,j⟩:=ε ys.length;have x:=Ac k;have v:=Ac j;rw[<-k,<-j]at d;have ab:(if(e:Int)<(g:Int)then(e:Int)else(g:Int))=(b:Int):=by split<;>omega
 have ac:(if e<g then(e:Int)else(g:Int))=(b:Int):=by split<;>omega
 rw[<-k]at G I⊢;rw[<-j]at J⊢;rw[<-u.out];clear h q d k j;go_in;go_wp2_with fail;go_loopw [5,12](λL n wr=>∃a:Nat,a<=b/\n=.int .i64 (a:Int)/\L=.int .i64 ((((l.zip ys).take a).countP isC:Nat):Int)/\wr=w)(λ_ n _=>b-(intOf n).toNat)
 case atStart=>exact⟨0,Bd _,rfl,rfl,rfl⟩
 case round=>
  obtain⟨a,W,rfl,rfl,rfl⟩:=hrel;by_cases H:a<b
  ·have s:a<l.length:=Ω x.out;have r:a<ys.length:=Ω v.out;obtain⟨R,ad,rfl,an,ah,_,_,_⟩:=y.at a s;obtain⟨S,ae,Q,T,rfl,U,_,_,_,al,am,_,_⟩:=t.at a r;have p:((l.zip ys).take (a+1)).countP isC=((l.zip ys).take a).countP isC+if((l[a].what==6)&&(ys[a].done&&ys[a].e==0))=true then 1 else 0:=Ak9 s r
   have V:((l.zip ys).take a).countP isC<=a:=AZ (List.countP_le_length ..) (by rw[Cc];exact lJ _ _);generalize((l.zip ys).take a).countP isC=z at*;have K:=XH H;have Z:=XH (show a<g by omega);have aa:=XH (show a<e by omega);have Y:=XI a O;have X:=XI z O;generalize l[a].what=m at*;generalize ys[a].done=M at*;generalize ys[a].e=N at*;have i:=Ac p;clear p;cases o:(m==6)
   all_goals(have t1:((m:Int)==6)=_:=(show((m:Int)==6)=(m==6)by rw[Bool.eq_iff_iff,beq_iff_eq,beq_iff_eq];omega).trans o)
   all_goals(rw[o]at i;cases M)
   all_goals(cases E:(N==0))
   all_goals(rw[E]at i;go_wp2_with fail)
   all_goals(first
    |exact⟨⟨a+1,O,by go_num,by rw[i.out];simp,by first|rfl|trivial⟩,by simp[intOf];omega⟩
    |(go_roundw
      case rel=>exact⟨a+1,O,by go_num,by rw[i.out];simp,by first|rfl|trivial⟩
      case measure=>simp[intOf];omega))
  ·have F:a=b:=O;subst F;have K:=wO (show¬a<a by omega);go_wp2;go_ret;exact⟨rfl,rfl⟩
def Tryz.Ap8:IK prog 42 67 (.agg #[.int .i64 0,.int .i64 0,.string ⟨#[]⟩,.string ⟨#[]⟩]) 4 48:=⟨underlying42,by kernel_rfl,rfl⟩
def Axh(c:Nat)(P:l.length<=4000)(h:lU w A l):
 Calls prog 11 #[.slice A l.length c] w λM w'=>(∃B L,M=.returned (.slice B l.length L))/\η w w':=by
 have H:Hid (∀d,η w d->lU d A l):=Ac (λd a=>Rd.below h a);obtain⟨e,m⟩:=ε l.length;have F:=Ac m;rw[<-m]at P⊢;clear h m;go_in;go_wp2_with fail;go_loopw [3,8](λE n wr=>∃a:Nat,a<=e/\n=.int .i64 (a:Int)/\wr.ownsRow w 67 4 E a (Pm (l.take a))/\η w wr)(λ_ n _=>e-(intOf n).toNat)
 case atStart=>exact⟨0,Bd _,rfl,Ce _ _ _ _,mZ⟩
 case round=>
  obtain⟨a,al,rfl,C,y⟩:=hrel;have u:=Ac C;have g:=Ac y;clear C y;by_cases Q:a<e
  ·have z:a<l.length:=Ω F.out;obtain⟨b,ap,rfl,ah,R,S,T,V⟩:=(H _ g).at a z;have an:=XH Q;have am:=XI a O;have v:Hid (Pm (l.take (a+1))=Pm (l.take a)++spC l[a]):=Ac (by rw[BH z,zh]);generalize l[a]=aa at*;obtain⟨o,p,q,r⟩:=aa;simp only at R S T V v;obtain⟨d,x,k,s⟩:=E5 wr 46 [o,p,q,r];obtain⟨W,X,Y,Z⟩:=s.p4;have j:=Eu u k;have i:=τ g.out k;rw[x]at W X Y Z j i;have G:=Ac j;have t:=Ac i;clear x k s j i;go_wp2_with(at_builtin;refine BU rfl (.tmp 12) (.tmp 14) 42 rfl Tryz.Ap8 (wr.alloc (.cells #[o,p,q,r] 46)) w u3 a (Pm (l.take a)) (spC ⟨o,p,q,r⟩) rfl (by exact G) rfl _ 1 rfl Θ rfl U (by intro E D;simp[spC]at D;rcases D with rfl|rfl|rfl|rfl<;>rfl) O U (by exact t.size) ?_;intro ad K aq J I ae ac);exact⟨⟨a+1,O,by go_num,by rw[v.out];exact J,t.trans I⟩,by simp[intOf];omega⟩
  ·have N:a=e:=O;subst N;have ao:=wO (Abz a);obtain⟨ab,K,rfl,_,_⟩:=C9 u;go_wp2;go_ret;exact⟨⟨_,_,rfl⟩,g⟩
end
def lB:List Sp:=[⟨0,0,⟨#[]⟩,⟨#[]⟩⟩,⟨1,0,⟨#[97]⟩,⟨#[120]⟩⟩,⟨5,0,⟨#[]⟩,⟨#[]⟩⟩,⟨6,0,⟨#[]⟩,⟨#[]⟩⟩,⟨6,0,⟨#[]⟩,⟨#[]⟩⟩]
def anZ:An:=⟨⟨#[]⟩,[],0,false,0⟩
def aB:List An:=[anZ,anZ,anZ,anZ,⟨⟨#[]⟩,[],0,true,0⟩]
def aF:List An:=[anZ,anZ,anZ,⟨⟨#[]⟩,[],0,true,6⟩]
def At1:(Dt XA lB aB 0).2= -1/\(Dt XA lB aB 0).1.T.map Qg=[1]:=by decide+kernel
def A1t:(Dt XA (lB.take 4) aF 0).2= -1/\(Dt XA (lB.take 4) aF 0).1.T.length=0:=by decide+kernel
def A34:(Dt XA lB (aB.take 4) 0).2=4:=by decide+kernel
def comB:YI lB aB=1:=by decide+kernel
def Afn:List Value:=[.int .i64 0,.int .i64 0,.string ⟨#[]⟩,.string ⟨#[]⟩,.int .i64 1,.int .i64 0,.string ⟨#[97]⟩,.string ⟨#[120]⟩,.int .i64 5,.int .i64 0,.string ⟨#[]⟩,.string ⟨#[]⟩,.int .i64 6,.int .i64 0,.string ⟨#[]⟩,.string ⟨#[]⟩,.int .i64 6,.int .i64 0,.string ⟨#[]⟩,.string ⟨#[]⟩]
def cellsA:List Value:=[.string ⟨#[]⟩,.slice none 0 0,.int .i64 0,false,.int .i64 0,.string ⟨#[]⟩,.slice none 0 0,.int .i64 0,false,.int .i64 0,.string ⟨#[]⟩,.slice none 0 0,.int .i64 0,false,.int .i64 0,.string ⟨#[]⟩,.slice none 0 0,.int .i64 0,false,.int .i64 0,.string ⟨#[]⟩,.slice none 0 0,.int .i64 0,true,.int .i64 0]
def Afo:List Value:=[.string ⟨#[]⟩,.slice none 0 0,.int .i64 0,false,.int .i64 0,.string ⟨#[]⟩,.slice none 0 0,.int .i64 0,false,.int .i64 0,.string ⟨#[]⟩,.slice none 0 0,.int .i64 0,false,.int .i64 0,.string ⟨#[]⟩,.slice none 0 0,.int .i64 0,true,.int .i64 6]
def zaB:List Av:=[⟨⟨#[]⟩,.slice none 0 0,0,false,0⟩,⟨⟨#[]⟩,.slice none 0 0,0,false,0⟩,⟨⟨#[]⟩,.slice none 0 0,0,false,0⟩,⟨⟨#[]⟩,.slice none 0 0,0,false,0⟩,⟨⟨#[]⟩,.slice none 0 0,0,true,0⟩]
def zaF:List Av:=[⟨⟨#[]⟩,.slice none 0 0,0,false,0⟩,⟨⟨#[]⟩,.slice none 0 0,0,false,0⟩,⟨⟨#[]⟩,.slice none 0 0,0,false,0⟩,⟨⟨#[]⟩,.slice none 0 0,0,true,6⟩]
def AnQ.no(w:World)(t:nG)(n:Int)(a:Bool)(e:Int):AnQ w ⟨t,.slice none 0 0,n,a,e⟩ ⟨t,[],n,a,e⟩:=⟨rfl,rfl,rfl,rfl,Bd _,none,0,rfl,YO.nil w⟩
def Axi(w:World):∀a(_h:a<zaB.length)(h2:a<aB.length),AnQ w zaB[a] aB[a]:=λa h _=>by
 have b:a<5:=h;rcases(show a=0\/a=1\/a=2\/a=3\/a=4 by omega)with rfl|rfl|rfl|rfl|rfl<;>exact AnQ.no ..
def Axj(w:World):∀a(_h:a<zaF.length)(h2:a<aF.length),AnQ w zaF[a] aF[a]:=λa h _=>by
 have b:a<4:=h;rcases(show a=0\/a=1\/a=2\/a=3 by omega)with rfl|rfl|rfl|rfl<;>exact AnQ.no ..
def wH:∀a∈lB,a.key.size<=4294967296/\a.text.size<=4294967296:=by decide
def Ap9(l:List Sp)(k:Nat)(e:k<=l.length):(Pm l).take (k*4)=Pm (l.take k):=by
 have b:Pm l=Pm (l.take k)++Pm (l.drop k):=by unfold Pm;rw[<-Af0,<-CJ,DY]
 have c:∀l:List Sp,(Pm l).length=l.length*4:=λl=>by
  induction l with
  |nil=>rfl
  |cons a l d=>rw[show Pm (a::l)=spC a++Pm l by simp[Pm],AO,d,Bg];simp[spC];omega
 rw[b,Aqk (by rw[c,Cc];omega)]
def Aqa(l:List Av)(k:Nat)(e:k<=l.length):(PN l).take (k*5)=PN (l.take k):=by
 have b:PN l=PN (l.take k)++PN (l.drop k):=by unfold PN;rw[<-Af0,<-CJ,DY]
 have c:∀l:List Av,(PN l).length=l.length*5:=λl=>by
  induction l with
  |nil=>rfl
  |cons a l d=>rw[show PN (a::l)=avC a++PN l by simp[PN],AO,d,Bg];simp[avC];omega
 rw[b,Aqk (by rw[c,Cc];omega)]
def lU.take{w:World}{A:Option Addr}{l:List Sp}(h:lU w A l){k:Nat}(b:k<=l.length):lU w A (l.take k):=by
 have a:=Rd.take h (show k*4<=l.length*4 by omega);rw[Ap9 l k b]at a;unfold lU;rw[Cc,EI b];exact a
def lV.take{w:World}{A:Option Addr}{az:List Av}{ys:List An}(h:lV w A az ys){k:Nat}(e:k<=ys.length):lV w A (az.take k) (ys.take k):=by
 have c:k<=az.length:=by rw[h.len];exact e
 have a:=Rd.take h.row (show k*5<=az.length*5 by omega);rw[Aqa az k c]at a;refine⟨by rw[Cc,Cc,h.len],?_,λg d b=>?_⟩
 ·rw[Cc,EI c];exact a
 ·rw[Cc]at d b;rw[bC,bC];exact h.one g O O
def At3(w:World):Calls prog 4 #[] w λe w'=>e=.returned true/\η w w':=by
 obtain⟨n,r,X,-⟩:=E5 w 46 Afn;obtain⟨c,g,A,-⟩:=E5 n 40 cellsA;have Y:n.heap.size=w+1:=by rw[r];simp
 have S:lU n (some (Φ w)) lB:=by
  have h:=uF w 46 Afn 20 rfl;rw[<-r]at h;exact h
 have Q:lV c (some (Φ (w+1))) zaB aB:=by
  have h:=uF n 40 cellsA 25 rfl;rw[<-g,Y]at h;exact⟨rfl,h,Axi c⟩
 obtain⟨d,k,aa⟩:=l9 (λa(b:η c a)=>(Rd.below (Rd.below S A) b:lU a (some (Φ w)) lB)) (λa(b:η c a)=>Q.below b) (τ X A);rw[r]at g;unfold Afn cellsA at g;have ad:=Ac g;have v:=Ac (YJ 5 5 U wH (d c  mZ) (k c  mZ));rw[At1.1,show lB.length=5 from rfl,show aB.length=5 from rfl]at v;have E:=Ac (λa(b:η c a)=>wG 5 5 U wH (d a b) (k a b));rw[At1.1,show lB.length=5 from rfl,show aB.length=5 from rfl]at E;have F:=Ac (λa(b:η c a)=>wG (ys:=aB.take 4) (az:=zaB.take 4) 5 5 U wH (d a b) ((k a b).take U));rw[A34,show lB.length=5 from rfl,show(aB.take 4).length=4 from rfl]at F;have D:=Ac (λa(b:η c a)=>Tm 5 5 U (d a b) (k a b));rw[comB,show lB.length=5 from rfl,show aB.length=5 from rfl]at D;clear r g X A Y S Q;go_in;go_wp2_with(rw[<-ad.out]);refine v.mono ?_;rintro e u⟨aG,rfl,V,x⟩;obtain⟨ao,aD,av,aq,rfl,J⟩:=V U;have L:(Dt XA lB aB 0).1.T.length=1:=by have:=congrArg Qg At1.2;simpa using this
 obtain⟨q,s,Z,ae,rfl,M,t,i,-⟩:=J.at 0 O;have K:(Dt XA lB aB 0).1.T[0].length=1:=by
  have:=congrArg (λl=>l[0]?) At1.2;simp only[CP,Ag (show 0<(Dt XA lB aB 0).1.T.length by omega)]at this;simpa using this
 rw[K]at i;rw[L];simp only[Nat.zero_mul,Nat.add_zero]at t i;have au:=Ac x;obtain⟨o,m,B,-⟩:=E5 u 40 Afo;have R:lV o (some (Φ u)) zaF aF:=by
  have h:=uF u 40 Afo 20 rfl;rw[<-m]at h;exact⟨rfl,h,Axj o⟩
 have y:η c o:=τ x B;have j:=Ac (YJ (l:=lB.take 4) 5 4 U (λam ah=>wH am (Qd ah)) ((d o y).take U) R);rw[A1t.1,A1t.2,show(lB.take 4).length=4 from rfl,show aF.length=4 from rfl]at j;have ab:=Ac y;have ac:=Ac B;unfold Afo at m;have al:=Ac m;have G:Hid (∀a,η u a->a.cell? (Δ q s)=some (.int .u64 1)/\a.cell? (Δ q (s+1))=some (.slice Z 1 ae)):=Ac (λa b=>⟨(b.cell (p:=Δ q s) M).trans t,(b.cell (p:=Δ q (s+1)) M).trans i⟩);have d1:(decide ((-1:Int)<0))=true:=by decide
 rw[d1]at j⊢;clear V x J L t i K m B R y v;go_wp2_with fail;rw[<-al.out];refine j.mono ?_;rintro e an⟨aI,rfl,W,z⟩;obtain⟨ap,aE,aw,ar,rfl,-⟩:=W U;have H:=Ac (τ ab.out z);obtain⟨t,i⟩:=G an (τ ac.out z);clear W z j G;go_wp2_with fail;refine(F _ H).mono ?_;rintro e aL⟨rfl,N⟩;have I:=Ac (τ H.out N);clear N;go_wp2_with fail;refine(E _ I).mono ?_;rintro e aM⟨rfl,P⟩;have C:=Ac (τ I.out P);clear P;go_wp2_with fail;refine(D _ C).ro ?_;go_wp2;go_ret;exact⟨rfl,τ aa.out C.out⟩
def Aqb(k:Nat)(h:k<40):∃a,shapeOf (19+16*k)=some a:=by
 have:∀k:Fin 40,(shapeOf (19+16*k.1)).isSome=true:=by decide+kernel
 exact Option.isSome_iff_exists.1 (this ⟨k,h⟩)
def lV.cells{w:World}{A:Option Addr}{az:List Av}{ys:List An}(h:lV w A az ys):∀c∈PN az,c.oneCell'=true:=λc a=>by
 unfold PN at a;obtain⟨d,i,a⟩:=List.mem_flatten.1 a;obtain⟨k,g,rfl⟩:=List.mem_map.1 i;obtain⟨j,b,rfl⟩:=List.getElem_of_mem g;obtain⟨_,_,_,_,_,B,d,e,_⟩:=h.one j b (by rw[<-h.len];exact b);unfold avC at a;rw[e]at a;simp at a;rcases a with rfl|rfl|rfl|rfl|rfl<;>rfl
def lV.snoc{w:World}{A d:Option Addr}{az:List Av}{ys:List An}(h:lV w A az ys){a:Av}{x:An}(i:Rd w d ((az.length+1)*5) (PN (az++[a])))(g:AnQ w a x):lV w d (az++[a]) (ys++[x]):=by
 refine⟨by rw[AO,AO,h.len];rfl,by rw[AO];exact i,λc e h2=>?_⟩;rw[AO,EO]at e;by_cases b:c<az.length
 ·rw[Na b,Na (by rw[<-h.len];exact b)];exact h.one c b _
 ·obtain rfl:c=az.length:=O;rw[LK (Ae _),LK (by rw[h.len];exact Ae _)];simpa using g
def lG(l:List nC)(A:Option Addr)(c:Nat)(r q:Nat)(w:World)(cE:l.length<=maxLen)(cz:l.length<=c)(a4:r<256)(am:q<65536)(h:Bs w A l.length l)(aW:Tabs w):Calls prog 3 #[.slice A l.length c,.int .u8 (r:Int),.int .u16 (q:Int)] w λp w'=>p=.returned true/\η w w':=by
 have c8:=aW.lt;obtain⟨a8,cB⟩:=ε (r%40);have bc:a8<40:=O;obtain⟨u,an⟩:=Aqb a8 bc;obtain⟨K,bN⟩:∃K,K=19+16*a8:=⟨_,rfl⟩;rw[<-bN]at an;have bO:0<K:=O;have bQ:K<=1024:=O;obtain⟨bi,aw,bl⟩:=l9 (At3 w) (λaa(a:η w aa)=>Ajd l A c aa cE cz (h.below a)) (λaa(a:η w aa)=>Atf bO bQ an (aW.below a));obtain⟨d,aM⟩:=ε (uD l);rw[<-aM]at aw;have a9:Hid (∀v∈d,v.key.size<=4294967296/\v.text.size<=4294967296):=Ac (λv a5=>Akz l v (by rw[<-aM];exact a5));have ci:Hid ((19+16*((r:Int)%40))=(K:Int)):=Ac O;have Y:Hid (QJ K [] (eg0 u)):=Ac (Atv bQ an);clear aW h aM cB bc bN an bO;go_in;go_wp2_with fail;refine bi.mono ?_;rintro p di⟨rfl,bS⟩;have V:=Ac bS;clear bS bi;go_wp2_with fail;refine(aw _ V).mono ?_;rintro p bb⟨de,rfl,a3,bV⟩;obtain⟨n,k,rfl,cA,b5⟩:=C9 a3;have bB:=Ao5 a3;obtain⟨y,bq,C⟩:=l9 (τ V.out bV) b5 bB;have cV:=V.size;clear bV a3 b5 bB V aw;by_cases cF:120<d.length
 ·have t2:=dT ((120:Int)<(d.length:Int));go_wp2;go_ret;exact⟨rfl,y⟩
 have t2:=dF ((120:Int)<(d.length:Int));go_wp2_with fail;rw[ci.out];refine(bl _ y).mono ?_;rintro p cN⟨c2,g,da,dk,tt,bk,c9,F,rfl,bL,ad,bY⟩;have bR:∀q,(λq=>q<bb.heap.size/\q≠0/\q≠1) q->q<bb.heap.size/\q≠0/\q≠1:=λq am=>am
 have bM:=bL.Aw7 bY bR;have bj:=Ac (τ y.out ad);have aR:lU cN n d:=Rd.below bq ad;have b3:d.length<=400:=O;have cQ:=ad.size;have bs:=Ac (Atn bM Y.ok (l:=d) a9 b3 k aR (λq h=>O) (λG H=>⟨(C G H).2,Ψ ((C G H).1) y.size,Ψ ((C G H).1) y.size⟩));have br:=Ac aR;clear bL bY bM ad bR aR bl;go_wp2_with fail;refine bs.mono ?_;rintro p o⟨df,c0,az,rfl,al,bA,cv,cw,cx,cy,a0⟩;obtain⟨x,t,rfl,bX,b4⟩:=C9 bA;obtain⟨cY,_,_,cu,_,bE⟩:=cv;obtain⟨j,J⟩:=ε d.length;obtain⟨ys,has⟩:=ε (Vx (eg0 u) d);have R:ys.length=d.length:=by rw[has,Abj]
 have av:Hid (lV o x az ys):=Ac ⟨by rw[al,R],b4,λa ab cr=>by
  obtain⟨cG,cH,cI,cJ,cg,cl,cK,cL,_⟩:=bE a ab;have ah:a<d.length:=O;have cm:ys[a]=wu (eg0 u) d a:=by
   have:=Abl d (eg0 u) a ah;rw[<-has,Ag cr]at this;exact Option.some.inj this
  rw[cm];have c7:(wu (eg0 u) d a).pairs.length<=100000:=by
   have cn:(YG (stP (eg0 u) d a) d[a]).2=wu (eg0 u) d a:=by rw[wu,Ag ah]
   rw[<-cn];exact Ato (wB Y.ok d a) d[a]
  exact⟨cG,cH,cI,cJ,O,cg,cl,cK,cL⟩⟩
 have aE:Hid (lU o n d):=Ac (Rd.touch br a0 (λG H h=>h (.inl ⟨(C G H).2,Ψ ((C G H).1) y.size,Ψ ((C G H).1) y.size⟩)));have ch:Hid (η w o):=Ac (bj.trans (a0.below bj.size (λq am=>by
  have a2:¬((q<bb.heap.size/\q≠0/\q≠1)\/q=0\/q=1):=am;have:=y.size;by_cases h:w.heap.size<=q
  ·exact h
  ·exact absurd (.inl ⟨O,λp=>a2 (.inr (.inl p)),λp=>a2 (.inr (.inr p))⟩) a2)))
 obtain⟨a,b2⟩:=ε (q%(j+1));have c5:a<=j:=Ω (Nat.mod_lt q (show 0<j+1 by omega));have bx:Hid ((q:Int)%((j:Int)+1)=(a:Int)):=Ac (by rw[b2];push_cast;rfl);have cZ:Hid (Int.tmod (q:Int) ((j:Int)+1)=(a:Int)):=Ac (by rw[Int.tmod_eq_emod_of_nonneg O];exact bx);rw[al];rw[<-J]at cF t2 b3 cA⊢;have cS:j<=t:=by rw[J,<-al];exact bX
 have cX:=Ac J;have bo:Hid (j=ys.length):=Ac (by rw[R];exact J);have cR:j<=120:=O;have ah:a<=d.length:=O;have cC:a<=ys.length:=O;have I:(d.take a).length=a:=by rw[Cc];omega
 have P:(ys.take a).length=a:=by rw[Cc];omega
 have E:Hid (∀e,η o e->lU e n (d.take a)):=Ac (λe i=>lU.take (Rd.below aE i) ah);have D:Hid (∀e,η o e->lV e x (az.take a) (ys.take a)):=Ac (λe i=>(av.below i).take cC);have W:Hid (∀v∈d.take a,v.key.size<=4294967296/\v.text.size<=4294967296):=Ac (λv a5=>a9 v (Qd a5));have a6:ys.take a=Vx (eg0 u) (d.take a):=by rw[has,rH]
 have b0:(Dt XA (d.take a) (ys.take a) 0).2= -1:=by rw[a6,<-Abn u];exact Afk Y _ _
 have b1:(Dt XA (d.take a) (ys.take a++[anZ]) 0).2=(a:Int):=by rw[a6,<-Abn u,Abm Y.out,I]
 have ao:=Ac (λe i=>YJ (w:=e) k t (by omega:(d.take a).length<=4000) W (E e i) (D e i));rw[b0,I,P]at ao;obtain⟨ap,aq,ar,bp⟩:=lL (λe i=>Tm (w:=e) k t (by omega:(d.take a).length<=4000) (E e i) (D e i)) (λe(i:η o e)=>Tm (w:=e) k t (by omega:(d.take a).length<=4000) (E e i) (av.below i)) (λe(i:η o e)=>Tm (w:=e) (l:=d) k t O (Rd.below aE i) (av.below i)) (λe(i:η o e)=>Axh (w:=e) (l:=d) k O (Rd.below aE i));rw[I,P]at ap;rw[I,<-bo.out]at aq;rw[<-J,<-bo.out]at ar;rw[<-J]at bp;have ae:=Atw d ys R.symm a;have a1:YI (d.take a) (ys.take a++[anZ])=YI (d.take a) (ys.take a):=rJ (by rw[I,P]) _;obtain⟨ce,b8⟩:=ε (YI (d.take a) ys);obtain⟨cf,b9⟩:=ε (YI d ys);obtain⟨dl,b7⟩:=ε (YI (d.take a) (ys.take a));rw[<-b8]at aq ae;rw[<-b9]at ar ae;rw[<-b7]at ap a1;have bd:=Ac a1;have aD:=Ac b1;have db:=dT ((ce:Int)<=(cf:Int));have dc:=dT (ce<=cf) ae;have c3:=wR ((j:Int)+1);have c6:((j:Int)+1==0)=false:=ζ O;have c4:a<=k:=O;have cT:a<=t:=O;have B:=Ac I;have T:=Ac P;clear b4 cw cx cy a0 bA cu bE b0 b1 I P a6 b7 b8 b9 ae a1 has R al bX bs bq br C a9 J b2;go_wp2_with fail;rw[bx.out];go_region_held3(λ_=>True)
  (trivial)
  ((first|(go_at_call 8;refine(ao _ (mX o)).mono ?_;rintro p L⟨dg,rfl,-,bW⟩)))
 all_goals(
  have Z:=Ac (((Dr.drew o).below o.heap.size).trans (bW.mono ((Dr.drew o).below o.heap.size).size));clear bW ao)
 have cc:Hid (Rd L x (a*5) (PN (az.take a))):=Ac (by
  have h:=(D L Z).row;rw[(D L Z.out).len,T.out]at h;exact h)
 have bh:=Ac (D L Z).cells;go_wp2_with(at_builtin;first
  |(refine Fq rfl (.const (.slice none 0 0)) (.tmp 61) 31 rfl Tryz.Ae4 U L.heap.size (.slice none 0 0) 0 [] rfl (Ce _ _ _ _) x a t (PN (az.take a)) rfl cc bh O U (Ae _) ?_;intro cM cP aI aG cs;rw[Du,DR]at aI)
  |(refine BU rfl (.tmp 62) (.tmp 64) 31 rfl Tryz.Ae4 cP L.heap.size cM a (PN (az.take a)) (avC ⟨⟨#[]⟩,.slice none 0 0,0,false,0⟩) rfl aI rfl _ 1 rfl (by first|rfl|simp) rfl U (by intro dd b6;simp[avC]at b6;rcases b6 with rfl|rfl|rfl|rfl|rfl<;>rfl) O U aG.size ?_;intro aL N z bw bt ct cj))
 have M:=Ac (τ Z.out (aG.trans bt));have X:Hid (∀e,η z e->lV e (some (Φ aL)) (az.take a++[⟨⟨#[]⟩,.slice none 0 0,0,false,0⟩]) (ys.take a++[anZ])):=Ac (λe i=>by
  obtain⟨cU,c1,cp,_,a4⟩:=C9 bw;injection cp with cq _ _
  subst cq;have ab:=D z M;have cD:(az.take a).length=a:=ab.len.trans T;rw[<-Aax]at a4;exact(ab.snoc (by rw[cD];exact a4) (AnQ.no ..)).below i)
 have ac:(ys.take a++[anZ]).length=a+1:=by rw[AO,T.out];rfl
 obtain⟨au,bm,be⟩:=l9 (YJ (w:=z) k N (by rw[B.out];omega:(d.take a).length<=4000) W (E z M) (X z  mZ)) (λe(i:η z e)=>wG (w:=e) k N (by rw[B.out];omega:(d.take a).length<=4000) W (E e (τ M.out i)) (X e i)) (λe(i:η z e)=>Tm (w:=e) k N (by rw[B.out];omega:(d.take a).length<=4000) (E e (τ M.out i)) (X e i));have t9:=dF ((a:Int)<0);rw[aD.out,B.out,ac,t9]at au;rw[aD.out,B.out,ac]at bm;rw[bd.out,B.out,ac]at be;clear bw bt ct cj aI aG cs ac cc bh X E D W aD bd B T t9;refine au.mono ?_;rintro p Q⟨dh,rfl,-,ca⟩;have ba:=Ac ca;clear ca au;go_wp2_with fail;refine wp_region_held_drew (S:=λ_=>True) Γ trivial (λb=>?_);refine MW 0 (.bool true) b ?_;refine MW 1 (.bool true) b ?_;refine MW 2 (.bool false) b ?_;refine MW 3 (.bool true) b ?_
 try simp only[Act.put,Au,Ak,Aj,Ah,Aq,Aw]
 refine MW 4 (.bool true) b ?_;refine MW 5 (.bool true) b ?_;refine MW 6 (.slice n j k) b ?_;refine MW 7 (.int .i64 (a:Int)) b ?_
 try simp only[Act.put,Au,Ak,Aj,Ah,Aq,Aw]
 refine MW 8 (.slice n a k) b ?_;refine MW 9 (.slice (some (Φ aL)) (a+1) N) b ?_;refine MW 11 (.int .i64 (a:Int)) b ?_
 try simp only[Act.put,Au,Ak,Aj,Ah,Aq,Aw]
 refine wpAnyH_ready (rs:=[10]) Γ Θ ?_;refine AllReadyH.cons rfl (λs m=>?_) AllReadyH.nil;go_simp;go_at_call 9;refine(bm _ (mX Q|>λh=>τ ba.out h)).mono ?_;rintro p cd⟨rfl,cb⟩;have a7:η z cd:=(τ ba.out ((Dr.drew Q).below Q.heap.size)).trans (cb.mono (τ ba.out ((Dr.drew Q).below Q.heap.size)).size);have k10:η o cd:=τ M.out a7;refine m.out _ _ trivial (λb=>?_);clear m s
 try simp only[Act.put,Au,Ak,Aj,Ah,Aq,Aw]
 refine MW 12 (.bool true) b ?_;refine MW 13 (.bool true) b ?_;refine MW 14 (.bool true) b ?_;refine MW 15 (.slice n j k) b ?_
 try simp only[Act.put,Au,Ak,Aj,Ah,Aq,Aw]
 refine MW 16 (.int .i64 (a:Int)) b ?_;refine MW 17 (.slice n a k) b ?_;refine MW 18 (.slice (some (Φ aL)) (a+1) N) b ?_;refine MW 20 (.slice n j k) b ?_
 try simp only[Act.put,Au,Ak,Aj,Ah,Aq,Aw]
 refine MW 21 (.int .i64 (a:Int)) b ?_;refine MW 22 (.slice n a k) b ?_;refine MW 23 (.slice x j t) b ?_;refine MW 24 (.int .i64 (a:Int)) b ?_
 try simp only[Act.put,Au,Ak,Aj,Ah,Aq,Aw]
 refine MW 25 (.slice x a t) b ?_
 try simp only[Act.put,Au,Ak,Aj,Ah,Aq,Aw]
 refine wpAnyH_ready (rs:=[19]) Γ Θ ?_;refine AllReadyH.cons rfl (λs m=>?_) AllReadyH.nil;go_simp;go_at_call 10;refine(be _ a7).ro ?_;refine m.out _ _ trivial (λb=>?_);clear m s
 try simp only[Act.put,Au,Ak,Aj,Ah,Aq,Aw]
 refine wpAnyH_ready (rs:=[26]) Γ Θ ?_;refine AllReadyH.cons rfl (λs m=>?_) AllReadyH.nil;go_simp;go_at_call 10;refine(ap _ k10).ro ?_;refine m.out _ _ trivial (λb=>?_);clear m s
 try simp only[Act.put,Au,Ak,Aj,Ah,Aq,Aw]
 refine MW 27 (.bool true) b ?_;refine MW 28 (.bool true) b ?_;refine MW 29 (.bool true) b ?_;refine MW 30 (.slice n j k) b ?_
 try simp only[Act.put,Au,Ak,Aj,Ah,Aq,Aw]
 refine MW 31 (.int .i64 (a:Int)) b ?_;refine MW 32 (.slice n a k) b ?_;refine MW 33 (.slice x j t) b ?_;refine MW 35 (.slice n j k) b ?_
 try simp only[Act.put,Au,Ak,Aj,Ah,Aq,Aw]
 refine MW 36 (.slice x j t) b ?_
 try simp only[Act.put,Au,Ak,Aj,Ah,Aq,Aw]
 refine wpAnyH_ready (rs:=[34]) Γ Θ ?_;refine AllReadyH.cons rfl (λs m=>?_) AllReadyH.nil;go_simp;go_at_call 10;refine(aq _ k10).ro ?_;refine m.out _ _ trivial (λb=>?_);clear m s
 try simp only[Act.put,Au,Ak,Aj,Ah,Aq,Aw]
 refine wpAnyH_ready (rs:=[37]) Γ Θ ?_;refine AllReadyH.cons rfl (λs m=>?_) AllReadyH.nil;go_simp;go_at_call 10;refine(ar _ k10).ro ?_;refine m.out _ _ trivial (λb=>?_);clear m s
 try simp only[Act.put,Au,Ak,Aj,Ah,Aq,Aw]
 refine MW 38 (.bool true) b ?_;refine MW 39 (.bool true) b ?_;refine MW 40 (.bool true) b ?_;refine MW 41 (.slice n j k) b ?_
 try simp only[Act.put,Au,Ak,Aj,Ah,Aq,Aw]
 refine MW 44 (.slice n j k) b ?_;refine MW 45 (.int .i64 (j:Int)) b ?_
 try simp only[Act.put,Au,Ak,Aj,Ah,Aq,Aw]
 refine wpAnyH_ready (rs:=[42]) Γ Θ ?_;refine AllReadyH.cons rfl (λs m=>?_) AllReadyH.nil;go_simp;go_at_call 11;refine(bp _ k10).mono ?_;rintro p dj⟨⟨cW,co,rfl⟩,bg⟩;refine m.out _ _ trivial (λb=>?_);clear m s
 try simp only[Act.put,Au,Ak,Aj,Ah,Aq,Aw]
 refine MW 43 (.int .i64 (j:Int)) b ?_;refine MW 46 (.bool true) b ?_;refine MW 47 (.bool true) b ?_;refine MW 48 (.bool true) b ?_
 try simp only[Act.put,Au,Ak,Aj,Ah,Aq,Aw]
 refine wpAnyH_done Γ ?_ _;have ck:=Ac (τ ch.out (τ k10 bg));clear bg k10 a7 cb b;go_wp2;go_ret;exact⟨rfl,ck⟩
end
end Go.Proofs.YteejpmddddnmnaaGreatDoor
namespace Go.Proofs.YteejpmddddnmnaaGreatDoor.traceShort
open Go.Proofs.Tryz
def k10:(Rows.traceShortRow.inPlace==prog.inPlace 3)=true:=by kernel_rfl
def k11:(Rows.traceShortRow.unfollowed==prog.unfollowed 3)=true:=by kernel_rfl
def k12:(Rows.traceShortRow.recurses==prog.recurses 3)=true:=by kernel_rfl
def k13:(Rows.traceShortRow.named==prog.varsNamed 3)=true:=by kernel_rfl
def closed:joinedFacts prog 3 Tryz.f3 Rows.traceShortSpec Rows.traceShortRow=true:=by
 unfold joinedFacts;rw[k10,k11,k12,k13];kernel_rfl
end Go.Proofs.YteejpmddddnmnaaGreatDoor.traceShort
namespace Go.Proofs.YteejpmddddnmnaaGreatDoor
open Go.Proofs.Tryz
section
open Go.ChangeShapes Go.WideShapes Go.ChangeAt Go.RowKit
def rM{P:Program}{c:World}{n:String}{g t e len fuel:Nat}{q:IntKind}{d:Array Value}{ns:List Int}{p:List MemPlace}(x:P.globalNamed n=some g)(A:c.var? P n=some d)
 (u:DataW.trod (λ_=>()) P c 0 (λ_=>true) false fuel t d.toList=some (.agg (ns.map λk=>.lit (.int q k)),p))(z:P.underlying t=some (.array len e))(v:P.underlying e=some (.int q))(h1:P.cellsOf e=1)(C:ns.length=len):
 ∀a(h:a<ns.length),c.cell? (Δ g a)=some (.int q ns[a]):=by
 intro a y;obtain⟨B,m,_,j,_,D,w⟩:=DataW.trod_array z u;have i:=w a O;rw[h1,Nat.mul_one,Ag O]at i;obtain⟨k,o,r,_⟩:=DataW.trod_int v i;simp only[Prod.mk.injEq,DataW.agg.injEq]at j;have b:=congrArg (λl=>l[a]?) j.1;simp only[CP,Ag y,Ag (show a<B.length by omega),Option.map_some,Option.some.injEq,r]at b;injection b with b
 injection b with _ b
 rw[World.var?_cell x A a,<-Array.getElem?_toList,b];have s:=congrArg (λl=>l[0]?) o;simpa using s
def laid2:List (String×DataW Unit):=Rows.traceShortRow.laid
def wI{d:World}(h:laidMetH prog laid2 d):Tabs d:=by
 rw[MakeChecks.laidMetH_plain _ _ _ Γ]at h;obtain⟨z,⟨v,t0,t,f0,x,A,e,o,r,l,⟨w,t1,u,f1,y,B,g,p,s,m,_,_⟩,_⟩,_,_⟩:=h;obtain rfl:=Option.some.inj ((by kernel_rfl:_=some 1).symm.trans e);obtain rfl:=Option.some.inj ((by kernel_rfl:_=some 0).symm.trans g);obtain rfl:=Option.some.inj ((by kernel_rfl:_=some 175).symm.trans o);obtain rfl:=Option.some.inj ((by kernel_rfl:_=some 239).symm.trans p);have j:prog.cellsOf 5=1:=by kernel_rfl
 have i:prog.cellsOf 111=1:=by kernel_rfl
 have k:=rM (q:=.u8) (ns:=Lib.deBruijn64tab.map Int.ofNat) e r l underlying175 underlying5 j rfl;have n:=rM (q:=.u32) (ns:=NU.map Int.ofNat) g s m underlying239 underlying111 i rfl;refine⟨λb c=>?_,λb c=>?_⟩
 ·have a:b<NU.length:=c;rw[n b (by simpa using a),UC,Bv,Ag a];rfl
 ·have a:b<Lib.deBruijn64tab.length:=c;rw[k b (by simpa using a),UC,Bv,Ag a];rfl
def door_met(os:Os)(args:Array Value):laidMetH prog laid2 ((World.doorLaid prog 400 os).forCall (λ_ _=>0) ⟨#[],args,[]⟩).memory:=
 laidMetH_of_parts3 (fuel:=8) (laidMet_of_run' 8 Γ Γ) Γ Γ
end
section
open Go.ChangeShapes Go.WideShapes Go.ChangeAt Go.RowKit
def open_bytes{H:Type}{enc:TypeId×Value->H}{c:World}{v:Value}{n:DataW H}{p:List MemPlace}(h:DataW.Trod enc prog c 0 (λ_=>true) true 22 v n p)(h1:v.cells.toList=[v]):
 ∃A d l,v=.slice A l.length d/\l.length<=maxLen/\l.length<=d/\Bs c A l.length l:=by
 obtain⟨m,i⟩:=h;rw[h1]at i;rcases open_ints underlying22 underlying5 Γ i with⟨b,_⟩|⟨k,u,e,x,b,_,q,r,t,_,o,s⟩
 ·simp only[List.cons.injEq,and_true]at b;exact⟨none,0,[],b,by simp,Ae _,⟨rfl,λh=>absurd h Θ⟩⟩
 ·simp only[List.cons.injEq,and_true]at b;obtain⟨l,g,y,z⟩:=Aho (w:=c) (a:=some k) (len:=u) (cap:=e) (zs:=x) (.inr ⟨_,rfl,q,r,by simpa using t,o,s⟩);have j:=g.len;exact⟨some k,e,l,by rw[b,j],O,O,by rw[j];exact g⟩
end
section
open Go.ChangeShapes Go.WideShapes Go.ChangeAt Go.RowKit
def Axp{a:Int}(h:(Lit.int .u8 a).wf=true):∃b:Nat,a=(b:Int)/\b<256:=by
 have c:0<=a/\a<=255:=by simpa[Lit.wf,IntKind.min,IntKind.max,IntKind.bits,IntKind.signed]using h
 exact⟨a.toNat,O,O⟩
def At6{a:Int}(h:(Lit.int .u16 a).wf=true):∃b:Nat,a=(b:Int)/\b<65536:=by
 have c:0<=a/\a<=65535:=by simpa[Lit.wf,IntKind.min,IntKind.max,IntKind.bits,IntKind.signed]using h
 exact⟨a.toNat,O,O⟩
