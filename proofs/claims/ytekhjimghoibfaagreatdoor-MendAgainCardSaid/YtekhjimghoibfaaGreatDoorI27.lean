import Derived.Test.YtekhjimghoibfaaGreatDoorI25
import Derived.Test.YtekhjimghoibfaaGreatDoorI26
set_option linter.defProp false
set_option maxHeartbeats 32000000
set_option maxRecDepth 100000
open Nat renaming lt_of_lt_of_le->BI,le_trans->Bi,le_refl->Ad,zero_add->DX,le_of_eq->JK,le_of_lt->Il
open Array renaming getElem?_eq_some_iff->AA
open List renaming getElem?_cons_zero->Ag,getElem?_cons_succ->AB,getElem_mem->BH,append_assoc->AV,getElem_toArray->Aq,getElem_cons_succ->Am,getElem_cons_zero->Ah,setIfInBounds_toArray->Af,set_cons_zero->Ap,set_cons_succ->Au,map_cons->Ci,map_append->Dc,take_succ_eq_append_getElem->CU,length_reverse->O9,take_of_length_le->EP,getElem?_eq_getElem->Ae,mem_cons->Ea,mem_cons_self->BA,mem_cons_of_mem->BO,mem_map->BM,map_map->Io,length_map->BX
open Go.Lib renaming hid->Aa
open Go.World renaming putObj_heap_other->Ip,cell?_of_block->Bh
open UInt64 renaming toNat_inj->DK,ofNat->Aj,toNat_add->VV
open Go.Value renaming slice->Ac
namespace Go.Proofs.YtekhjimghoibfaaGreatDoor
open Go.Proofs.Tryz
section
open Go.RowKit Go.Shelf
attribute [local go_sem]Oper.semAt_some
def iZ(l:List Wr)(ps:List (UInt64×UInt64))(hpl:ps.length<=l.length)(q:Ms)(x:Below' ps.length):Ms×Int:=Jr q ((l[x.1]'(BI x.2 hpl)).key,ps[x.1]'x.2)
def JB(l:List Wr)(ps:List (UInt64×UInt64))(hpl:ps.length<=l.length)(q:Ms):List (Below' ps.length)->Ms
 |[]=>q
 |x::a=>if(iZ l ps hpl q x).2≠0 then(iZ l ps hpl q x).1 else JB l ps hpl (iZ l ps hpl q x).1 a
def QT{a e:World}{G:Nat->Prop}(B:Nat)(j:Touch G a e)(k:∀c,G c->c<a.heap.size->MR a c):KeepsFrom B a e:=⟨j.size,λi n _ d m=>by
 have g:=(AA.1 d).1;rw[j.block i g (λl=>by
  obtain⟨o,b,f⟩:=k i l g;rw[d]at b;injection b with b
  rw[<-b,m]at f;cases f)]
 exact d⟩
def Att(A:Option Addr)(n c:Nat)(w:World):Calls prog 83 #[.slice A n c] w λa w'=>a=.returned (.func (.func 131) #[] #[Az w.heap.size])/\w'=w.alloc (.cells #[.slice A n c] 124):=by
 go_enter func83,ntmps83
 go_wp2_with fail
 refine bodyPost_ret (v:=.func (.func 131) #[] #[Az w.heap.size]) (by simp[results,results83,go_sem]) rfl ?_;exact⟨rfl,rfl⟩
def EZ.ends{f:Ef}{w:World}{base jb x d p L:Nat}{s:St}{stamp:UInt64}{vs:Value}{l:List Wr}{ps:List (UInt64×UInt64)}{over:Bool}{en:Int}{F:Nat->Prop}{v:Value}(h:EZ f w base jb x d p L s stamp vs l ps over en F v)(er:Int):
 EZ f ((w.setCell (Δ jb 6) (.bool true)).setCell (Δ jb 7) (.int .i64 er)) base jb x d p L s stamp vs l ps true er F v/\AP (JG F jb v) (JG F jb v) w ((w.setCell (Δ jb 6) (.bool true)).setCell (Δ jb 7) (.int .i64 er)):=by
 have e:Touch (λb=>b=jb) w ((w.setCell (Δ jb 6) (.bool true)).setCell (Δ jb 7) (.int .i64 er)):=((Touch.refl (λb=>b=jb) w).setCell (p:=Δ jb 6) (.inl rfl) _).setCell (p:=Δ jb 7) (.inl rfl) _;have m:AP (JG F jb v) (JG F jb v) w ((w.setCell (Δ jb 6) (.bool true)).setCell (Δ jb 7) (.int .i64 er)):=⟨e.mono (λb a=>.inr (.inl a)),λb c=>.inl c⟩;exact⟨⟨⟨h.ix.sys.keep e (λb c a=>h.fj (a▸c)) h.gj.1 h.gj.2,h.ix.box.touch e h.xj,h.ix.out⟩,(h.box.AZ 6 (.bool true)).AZ 7 (.int .i64 er),Ie h.row e (λb c a=>h.mj (a▸c)),h.set.moved m,h.fj,h.bj,h.bx,h.bt,h.mj,h.mF⟩,m⟩
def tq(w:World)(base jb c d p L:Nat)(stamp:UInt64)(vs:Value)(l:List Wr)(ps:List (UInt64×UInt64))(en:Int)(F:Nat->Prop)(v:Value)(q:Ms)(a:World):Prop:=
 (∃b,EZ q.pw.mode a base jb c d p L q.s stamp vs l ps false en b v/\AP (JG F jb v) (JG b jb v) w a)/\(CQ a w.heap.size 71 [Az jb]/\CQ a (w.heap.size+1) 124 [v])/\w.heap.size+2<=a.heap.size
def tq.grown{w:World}{base jb s d p L:Nat}{stamp:UInt64}{vs:Value}{l:List Wr}{ps:List (UInt64×UInt64)}{en:Int}{F:Nat->Prop}{v:Value}{q:Ms}{X i:World}{row:Option Nat}(h:tq w base jb s d p L stamp vs l ps en F v q X){B:Nat}(C:w.heap.size<=B)(o:X.grownBy i row)
 (r:∀a,row=some a->B<=a/\∃g,X.heap[a]?=some g/\g.isCells=false):tq w base jb s d p L stamp vs l ps en F v q i:=by
 obtain⟨⟨t,z,n⟩,⟨k,m⟩,A⟩:=h;have f:∀a,row=some a->¬MR X a:=λa b⟨g,x,j⟩=>by
  obtain⟨_,D,c,y⟩:=r a b;rw[x]at c;injection c with c
  rw[c,y]at j;cases j
 have e:=KZ o;exact⟨⟨t,z.abide o f,⟨n.touch.trans e (λu b=>.inr (Ω ((r u b).1))),n.own⟩⟩,⟨k.touch e (λb=>f _ b (IB k)),m.touch e (λb=>f _ b (IB m))⟩,Bi A e.size⟩
def Aa7{q:Ms}{w:World}{base jb aB d p L:Nat}{stamp:UInt64}{vs:Value}{l:List Wr}{ps:List (UInt64×UInt64)}{en:Int}{F:Nat->Prop}{A:Option Addr}{c:Nat}(h:EZ q.pw.mode w base jb aB d p L q.s stamp vs l ps false en F (.slice A ps.length c))(hpl:ps.length<=l.length)(dd:l.length<=100000)(cH:∀c0∈l,c0.key.size<=16)(er:Int):
 Calls prog 49 #[Az jb,.int .i64 er] w λf w'=>f=.returned (.int .i64 er)/\∃i,EZ (JB l ps hpl q (Ec ps.length ps.length)).pw.mode w' base jb aB d p L (JB l ps hpl q (Ec ps.length ps.length)).s stamp vs l ps true er i (.slice A ps.length c)/\
  AP (JG F jb (.slice A ps.length c)) (JG i jb (.slice A ps.length c)) w w':=by
 have db:=h.box.lt;have cg:=h.box.cell 5;unfold Es at cg;simp only[Ag,AB]at cg;have c2:=Aa h;obtain⟨r,cb⟩:∃r,A=some (Φ r)\/(r=jb/\ps.length=0):=by
  rcases h.row.2 with⟨j,Q⟩|⟨r,c4,c5,j,_⟩
  ·exact⟨jb,.inr ⟨rfl,by injection j⟩⟩
  ·exact⟨r,.inl (by injection j)⟩
 have ca:0<ps.length->A=some (Φ r):=λc6=>cb.resolve_right (λj=>O)
 have a7:Hid (∀(a:World)(i:Nat->Prop)(cP:Ef)(s':St),EZ cP a base jb aB d p L s' stamp vs l ps false en i (.slice A ps.length c)->r<a.heap.size/\¬i r):=Aa (λa i _ s' ah=>by
  rcases cb with j|⟨j,_⟩
  ·exact⟨(ah.mlt r (by rw[j];rfl)).2,ah.mF r (by rw[j];rfl)⟩
  ·subst j;exact⟨ah.box.lt,ah.fj⟩)
 have da:r<w.heap.size:=(a7.out _ _ _ _ h).1;refine(callsIn_wide (n:=3)).1 ?_;refine callsIn_of_wp_marks func49 rfl trivial ?_ rfl;simp only[ntmps49,List.size_toArray,List.length_cons,List.length_nil,Nat.reduceAdd,Nat.reduceSub,Array.replicate_succ,Array.replicate_zero,List.push_toArray,List.append_toArray,List.nil_append,List.cons_append]
 gi_wp2_with(refine⟨trivial,?_⟩;gi_at_call 83;refine(callsIn_wide.2 (Att _ _ _ _)).mono ?_;rintro f w'⟨rfl,rfl⟩)
 obtain⟨P,aH⟩:=ε ((w.alloc (.cells #[Az jb] 71)).alloc (.cells #[.slice A ps.length c] 124));rw[<-aH];have b7:η w P:=aH▸((Below.refl _ w).alloc (Ad _) _).alloc Θ _;have cm:CQ P w.heap.size 71 [Az jb]:=by rw[aH];exact(χ _ _ Θ).trans (heap_alloc_new _ _)
 have bS:CQ P (w.heap.size+1) 124 [.slice A ps.length c]:=by
  have:=heap_alloc_new (w.alloc (.cells #[Az jb] 71)) (.cells #[.slice A ps.length c] 124);rw[show(w.alloc (.cells #[Az jb] 71)).heap.size=w.heap.size+1 by simp,<-aH]at this;exact this
 have dk:P.heap.size=w.heap.size+2:=by rw[aH];simp
 have b2:=h.below b7;have cL:∀V(h:V<ps.length),P.cell? (Δ r (V*2))=some (.int .u64 (ps[V].1.toNat:Int))/\P.cell? (Δ r (V*2+1))=some (.int .u64 (ps[V].2.toNat:Int)):=λV cc=>by
  obtain⟨c1,c3,bc,_,G⟩:=DR b2.row;obtain⟨m,ad,bp,_,ah⟩:=G.2 O;injection bc with bc _ _
  rw[ca O]at bc;subst bc;injection bp with bp
  injection bp with cy cz
  subst cy cz;have b9:=flat_get Aav 2 (λ_=>rfl) ps V;refine⟨?_,?_⟩
  ·have:=ah (V*2) O;rw[DX]at this;rw[this];exact b9 0 cc U
  ·have:=ah (V*2+1) O;rw[DX]at this;rw[this];exact b9 1 cc U
 have cq:=Aa cH;have dl:=h.ix.sys.tabs.lt;have dp:=h.ix.box.lt;have cW:=bS.p1;refine wpIn_rangeFunc_ownH rfl U (gf:=131) (lb:= #[Az (w.heap.size+1)]) rfl trivial (enters_of func131 Γ rfl)
  (encs:=λx:Below' ps.length=> #[.int .i64 (x.1:Int),au (ps[x.1]'x.2)]) (Kp:=qP r (w.heap.size+1)) (S:=λci=>ci=Ec ps.length ps.length) (Sp:=λD=>D<+:Ec ps.length ps.length) (N:=ps.length) (w0:=P)
  (Akt Fence.wide 2 trivial rfl U (w.heap.size+1) r c A ps O ca P cW cL O) (λj Q=>⟨Q.1.trans j.1,Q.2.trans j.2⟩) (λa aR a2 cV dc dj j _=>⟨Ip O,Ip O⟩) (Below.refl _ _) (λ_=>rfl)
  (λD a=>∃e,(∀v,D++v=Ec ps.length ps.length->JB l ps hpl q (Ec ps.length ps.length)=JB l ps hpl e v)/\tq w base jb aB d p L stamp vs l ps en F (.slice A ps.length c) e a)
  (λf D a=>f=.exit 0/\∃e,(∀v,D++v=Ec ps.length ps.length->JB l ps hpl q (Ec ps.length ps.length)=e)/\tq w base jb aB d p L stamp vs l ps en F (.slice A ps.length c) e a)
  ?hI ?hIx ⟨q,λv f=>by rw[<-f];rfl,⟨F,b2,AP.of_below b7⟩,⟨cm,bS⟩,O⟩
  (λx bm a=>∃u,P.heap.size<=u/\CQ a u 128 [.int .u64 ((ps[x.1]'x.2).1.toNat:Int),.int .u64 ((ps[x.1]'x.2).2.toNat:Int)]/\bm={tmps:= #[Az jb,.int .i64 er,Az w.heap.size,undef,.int .i64 0,.int .i64 (x.1:Int),Az u,Az jb,Az jb,.pointer (some (Δ jb 5)),.slice A ps.length c,.func (.func 131) #[] #[Az (w.heap.size+1)],.int .i64 (x.1:Int),au (ps[x.1]'x.2),undef,undef,undef,undef,undef,undef,undef,undef,undef,undef,undef,undef,undef,undef,undef,undef,undef,undef,undef,undef,undef,undef,undef,undef,undef,undef,undef,undef,undef,undef,undef,undef],defers:=[]})
  ?hAx ?assign ?body ?done ?stop
 case hI=>
  rintro D bX b0 ch⟨e,z,bq⟩aM G;exact⟨e,z,bq.grown O aM G⟩
 case hIx=>
  rintro f D bX b0 ch⟨cG,e,z,bq⟩aM G;exact⟨cG,e,z,bq.grown O aM G⟩
 case hAx=>
  intro x bm;rintro dq bX b0 ch⟨u,j,Q,cA⟩aM G;refine⟨u,j,Q.touch (KZ aM) (λf=>?_),cA⟩;obtain⟨_,cV,bd,cB⟩:=G u f;obtain⟨a2,cC,b1⟩:=IB Q;rw[cC]at bd;injection bd with bd
  rw[bd,cB]at b1;cases b1
 case assign=>
  rintro l0 D x a a9⟨e,z,⟨i,y,k⟩,⟨K,ab⟩,ar⟩R;have cr:=Aa z;clear z;have bs:r<a.heap.size:=(a7.out _ _ _ _ y).1;unfold au at R⊢;have cp:=Aa R;have g:=Aa y;have Y:=Aa k;have M:=Aa K;have af:=Aa ab;clear R y k K ab;gi_wp2;have aL:∀a2,η a (a.alloc a2):=λa2=>(Below.refl _ _).alloc (Ad _) _
  exact cp.out _ _ ((KeepsOthers.alloc _ _).from _) ⟨χ _ _ bs,χ _ _ O⟩ ⟨e,cr.out,⟨i,g.out.below (aL _),Y.out.below (aL _)⟩,⟨M.out.ξ (aL _),af.out.ξ (aL _)⟩,by have:=(aL (.cells #[] 128)).size;simp at this⊢;omega⟩ ⟨a.heap.size,O,heap_alloc_new _ _,rfl⟩
 case body=>
  rintro l0 D x bm a de⟨az,ce⟩⟨e,z,⟨i,y,k⟩,⟨K,ab⟩,ar⟩⟨u,c7,be,rfl⟩dg;have J:x.1<l.length:=BI x.2 hpl;obtain⟨Z,ad,bo,cM,c8,cF,cJ,bL,H,cX⟩:=y.set.at x.1 J;have cI:=cq.out l[x.1] (BH J);have aE:Hid (∀H,Jr e ((l[x.1]'J).key,ps[x.1]'x.2)=(H,0)->∀v,D++[x]++v=Ec ps.length ps.length->JB l ps hpl q (Ec ps.length ps.length)=JB l ps hpl H v):=Aa (λH f v G=>by
   have f:iZ l ps hpl e x=(H,0):=f;rw[z (x::v) (by rw[<-G,AV];rfl),JB,f,if_neg Θ])
  have a5:Hid (∀H az,Jr e ((l[x.1]'J).key,ps[x.1]'x.2)=(H,az)->az≠0->∀v,D++[x]++v=Ec ps.length ps.length->JB l ps hpl q (Ec ps.length ps.length)=H):=Aa (λH az f ce v G=>by
   have f:iZ l ps hpl e x=(H,az):=f;rw[z (x::v) (by rw[<-G,AV];rfl),JB,f,if_pos ce])
  clear z;have g:=Aa y;have Y:=Aa k;have bj:=be.cell 0;have W:=be.cell 1;have a3:=K.cell 0;simp only[Ag,AB]at bj W a3;have M:=Aa K;have a6:=Aa be;have af:=Aa ab;clear y k K be ab;by_cases al:(ps[x.1]'x.2).2=0
  ·rw[al]at W;have bk:=Aa (aE.out e (by unfold Jr;rw[if_pos al]));replace W:a.cell? (Δ u 1)=some (.int .u64 0):=W;clear al aE a5;unfold au;gi_wp2;exact⟨KeepsFrom.refl _ _,⟨rfl,rfl⟩,e,bk.out,⟨i,g.out,Y.out⟩,⟨M.out,af.out⟩,ar⟩
  ·have aq:Hid (Jr e ((l[x.1]'J).key,ps[x.1]'x.2)=if(KI e (l[x.1]'J).key.data.toList (ps[x.1]'x.2).1).2≠0 then KI e (l[x.1]'J).key.data.toList (ps[x.1]'x.2).1 else((Eh (KI e (l[x.1]'J).key.data.toList (ps[x.1]'x.2).1).1 (Bg (ps[x.1]'x.2).2)).1,0)):=Aa (by unfold Jr;rw[if_neg al]);have t1:(((ps[x.1]'x.2).2.toNat:Int)==0)=false:=ζ λf=>al (DK.1 (by simp;omega))
   have t2:((ps[x.1]'x.2).2.toNat==0)=false:=ζ λf=>al (DK.1 (by simp;omega))
   clear al;unfold au;generalize ps[x.1]'x.2=B at*;generalize l[x.1]'J=a4 at*;have c9:1<=3-1-1:=by decide
   have dh:prog.follows .mixedOrders=true:=by kernel_rfl
   have av:=g.out.box.cell 4;have ac:=g.out.box.cell 1;unfold Es at ac av;simp only[Ag,AB]at ac av;rw[cM]at av;have cN:(x.1:Int)<(l.length:Int):=O;have dm:decide ((x.1:Int)<(l.length:Int))=true:=decide_eq_true cN;have dn:decide (x.1<l.length)=true:=decide_eq_true J;have aD:=Aa (λba(aR:η a ba)=>Alm (g.out.ix.below aR) (⟨g.out.box.ξ aR,g.out.fj⟩:Pv ba jb aB d p stamp vs (.slice A ps.length c) false en i) a4.key cI B.1);obtain⟨cY,cf⟩:=ε (KI e a4.key.data.toList B.1);rw[<-cf]at aD aq;clear cf;have a1:¬i w.heap.size:=g.out.ix.sys.kW M.out U;have bE:¬i u:=g.out.ix.sys.kW a6.out U;have bB:¬i (w.heap.size+1):=g.out.ix.sys.kW af.out U;have cU:¬i r:=(a7.out _ _ _ _ g.out).2;have bs:r<a.heap.size:=(a7.out _ _ _ _ g.out).1;have cT:¬i Z:=λh=>cJ (.inl h)
   have bN:Hid (∀o C,AP i C a.drew o->AP i C a o/\(o.cell? (Φ w.heap.size)=some (Az jb)/\o.cell? (Δ jb 4)=some (.slice (some (Δ Z ad)) l.length bo)/\o.cell? (Δ Z (ad+x.1*3))=some (.string a4.key)/\o.cell? (Φ u)=some (.int .u64 (B.1.toNat:Int)))):=Aa (λo C bt=>by
    have a0:AP i C a o:=(AP.of_below ((Dr.drew a).below _)).trans bt;have aa:∀m,m<a.heap.size->¬i m->o.heap[m]?=a.heap[m]?:=λm T bw=>a0.touch.block m T bw
    exact⟨a0,(Bh (aa _ M.out.lt a1)).trans a3,(Bh (aa _ g.out.box.lt g.out.fj)).trans av,(Bh (aa _ cF cT)).trans bL,(Bh (aa _ a6.out.lt bE)).trans bj⟩)
   obtain⟨bh,bO⟩:=cY;simp only at aD aq;clear H cX;gi_wp2;refine Ld (S:=(λw'=>w'.cell? (Φ w.heap.size)=some (Az jb)/\w'.cell? (Δ jb 4)=some (.slice (some (Δ Z ad)) l.length bo)/\w'.cell? (Δ Z (ad+x.1*3))=some (.string a4.key)/\w'.cell? (Φ u)=some (.int .u64 (B.1.toNat:Int)))) Γ Γ ⟨a3,av,bL,bj⟩ (λb=>?_);refine Fq 0 (Az jb) b (hy:=λw t=>by obtain⟨s0,an,ao,bi⟩:=t;go_simp) ?_;refine Fq 1 (Az jb) b (hy:=λw t=>by obtain⟨s0,an,ao,bi⟩:=t;go_simp) ?_;refine Fq 2 (Az jb) b ?_;refine Fq 3 (.pointer (some (Δ jb 4))) b ?_
   try simp only[Act.put,Aq,Am,Ah,Af,Ap,Au]
   refine Fq 4 (.slice (some (Δ Z ad)) l.length bo) b (hy:=λw t=>by obtain⟨s0,an,ao,bi⟩:=t;go_simp) ?_;refine Fq 5 (.int .i64 (x.1:Int)) b ?_;refine Fq 6 (.pointer (some (Δ Z (ad+x.1*3)))) b ?_;refine Fq 7 (.pointer (some (Δ Z (ad+x.1*3)))) b ?_
   try simp only[Act.put,Aq,Am,Ah,Af,Ap,Au]
   refine Fq 8 (.string a4.key) b (hy:=λw t=>by obtain⟨s0,an,ao,bi⟩:=t;go_simp) ?_;refine Fq 9 (Az u) b ?_;refine Fq 10 (.int .u64 (B.1.toNat:Int)) b (hy:=λw t=>by obtain⟨s0,an,ao,bi⟩:=t;go_simp) ?_
   try simp only[Act.put,Aq,Am,Ah,Af,Ap,Au]
   refine wpAnyH_ready (rs:=[11]) Γ Θ ?_;refine AllReadyH.cons rfl (λa9 R=>?_) AllReadyH.nil;go_simp;go_at_call 84;refine(aD.out _ ((Dr.drew a).below _)).mono ?_;rintro f o⟨rfl,C,bb,bl⟩;obtain⟨k,br⟩:=bN.out o C bl;refine R.out _ _ (br) (λb=>?_);clear R a9
   try simp only[Act.put,Aq,Am,Ah,Af,Ap,Au]
   by_cases bg:bO=0
   ·subst bg;have bk:=Aa (aE.out (Eh bh (Bg B.2)).1 (by rw[aq.out,if_neg Θ]));clear a5 aE aq;refine Fq 12 (.bool false) b ?_
    try simp only[Act.put,Aq,Am,Ah,Af,Ap,Au]
    refine wpAnyH_done Γ ?_ _;refine⟨nofun,?_⟩;have E:=Aa k;have a8:=Aa bb;have cj:=b.1;have bx:=(g.out.box.touch k.touch g.out.fj);have bA:=a6.out.touch k.touch bE;clear bb bl k br b bN aD bL a3 bj W ac av;have ac:=bx.cell 1;have W:=bA.cell 1;unfold Es at ac;simp only[Ag,AB]at ac W;have co:=Aa bx;have ct:=Aa bA;have cv:=Aa (M.out.touch E.out.touch a1);clear bx bA;have cQ:¬C w.heap.size:=E.out.out M.out.lt a1;have cS:¬C u:=E.out.out a6.out.lt bE;have cR:¬C jb:=E.out.out g.out.box.lt g.out.fj;have cd: -9223372036854775808<=Bg B.2/\Bg B.2<=9223372036854775807:=NL B.2;have bT:=Aa (λba(aR:η o ba)=>LV (a8.out.sys.below aR) (Bg B.2) cd);have bW:Hid (∀I X,AP C X o.drew I->AP C X o I/\(I.cell? (Φ w.heap.size)=some (Az jb)/\I.cell? (Δ jb 1)=some (Az p)/\I.cell? (Δ u 1)=some (.int .u64 (B.2.toNat:Int)))):=Aa (λI X bt=>by
     have a0:AP C X o I:=(AP.of_below ((Dr.drew o).below _)).trans bt;have aa:∀m,m<o.heap.size->¬C m->I.heap[m]?=o.heap[m]?:=λm T bw=>a0.touch.block m T bw
     exact⟨a0,(Bh (aa _ cv.out.lt cQ)).trans cj,(Bh (aa _ co.out.lt cR)).trans ac,(Bh (aa _ ct.out.lt cS)).trans W⟩)
    clear cd;gi_wp2;refine Ld (S:=(λw'=>w'.cell? (Φ w.heap.size)=some (Az jb)/\w'.cell? (Δ jb 1)=some (Az p)/\w'.cell? (Δ u 1)=some (.int .u64 (B.2.toNat:Int)))) Γ Γ ⟨cj,ac,W⟩ (λb=>?_);refine Fq 0 (Az jb) b (hy:=λw t=>by obtain⟨s0,an,ao⟩:=t;go_simp) ?_;refine Fq 1 (Az jb) b ?_;refine Fq 2 (.pointer (some (Δ jb 1))) b ?_;refine Fq 3 (Az p) b (hy:=λw t=>by obtain⟨s0,an,ao⟩:=t;go_simp) ?_
    try simp only[Act.put,Aq,Am,Ah,Af,Ap,Au]
    refine Fq 4 (.pointer (some (Δ u 1))) b ?_;refine Fq 5 (.int .u64 (B.2.toNat:Int)) b (hy:=λw t=>by obtain⟨s0,an,ao⟩:=t;go_simp) ?_;refine Fq 6 (.int .i64 (Bg B.2)) b (hy:=λw t=>by clear t;go_simp;rfl) ?_
    try simp only[Act.put,Aq,Am,Ah,Af,Ap,Au]
    refine wpAnyH_ready (rs:=[7]) Γ Θ ?_;refine AllReadyH.cons rfl (λa9 R=>?_) AllReadyH.nil;go_simp;go_at_call 62;refine(bT.out _ ((Dr.drew o).below _)).mono ?_;rintro f I⟨rfl,X,bR,b5⟩;obtain⟨k,b6⟩:=bW.out I X b5;refine R.out _ _ (b6) (λb=>?_);clear R a9
    try simp only[Act.put,Aq,Am,Ah,Af,Ap,Au]
    refine wpAnyH_done Γ ?_ _;refine⟨nofun,?_⟩;have cw:=Aa k;have cs:=Aa (a8.out.move bR k);clear bR b5 k b6 b bW bT;gi_wp2;have am:AP i X a I:=E.out.trans cw.out;obtain⟨aG,aw⟩:=g.out.move cs.out am;exact⟨QT _ am.touch (λm T _=>g.out.ix.sys.cells T),⟨am.touch.block _ bs cU,am.touch.block _ af.out.lt bB⟩,(Eh bh (Bg B.2)).1,bk.out,⟨X,aG,Y.out.trans aw⟩,⟨M.out.touch am.touch a1,af.out.touch am.touch bB⟩,Bi ar am.touch.size⟩
   ·have t5:(bO==0)=false:=ζ bg;have cn:=Aa (a5.out bh bO (by rw[aq.out,if_pos bg]) bg);clear a5 aE aq;refine Fq 12 (.bool true) b ?_
    try simp only[Act.put,Aq,Am,Ah,Af,Ap,Au]
    refine wpAnyH_done Γ ?_ _;refine⟨nofun,?_⟩;have E:=Aa k;have a8:=Aa bb;clear bb bl k br b bN aD;gi_wp2;obtain⟨aG,aw⟩:=g.out.move a8.out E.out;exact⟨QT _ E.out.touch (λm T _=>g.out.ix.sys.cells T),rfl,bh,cn.out,⟨_,aG,Y.out.trans aw⟩,⟨M.out.touch E.out.touch a1,af.out.touch E.out.touch bB⟩,Bi ar E.out.touch.size⟩
 case' done=>
  rintro ap ci a cD rfl⟨e,z,⟨i,y,k⟩,⟨K,ab⟩,ar⟩b3;have bV:Hid (JB l ps hpl q (Ec ps.length ps.length)=e):=Aa (z [] (List.append_nil _))
 case' stop=>
  rintro ap f D a cD⟨v,cK⟩⟨rfl,e,z,⟨i,y,k⟩,⟨K,ab⟩,ar⟩b3;have bV:Hid (JB l ps hpl q (Ec ps.length ps.length)=e):=Aa (z v cK)
 all_goals(
  have a3:=K.p1;have f6:=y.box.frozen 6;have f7:=y.box.frozen 7;have ck:=y.box.cell 6;have cl:=y.box.cell 7;unfold Es at ck cl;simp only[Ag,AB]at ck cl;have g:=Aa y;have Y:=Aa k;clear y k K ab z;gi_wp2;refine wpIn_wide.2 ?_;go_region;have b4:=(KeepsOthers.setCell (a.setCell (Δ jb 6) (.bool true)) (Δ jb 7) (.int .i64 er)).same ap _ ((KeepsOthers.setCell a (Δ jb 6) (.bool true)).same ap _ b3 rfl) rfl;gi_wp2;refine⟨by simp,.inl ⟨_,_,rfl,run_takeDeferred b4,?_⟩⟩;refine⟨.int .i64 er,by simp[results,results49,go_sem],rfl,i,?_⟩;rw[bV.out];obtain⟨aG,aw⟩:=g.out.ends er;have b8:=((Dr.drew ((a.setCell (Δ jb 6) (.bool true)).setCell (Δ jb 7) (.int .i64 er))).below ((a.setCell (Δ jb 6) (.bool true)).setCell (Δ jb 7) (.int .i64 er)).heap.size);have cE:((a.setCell (Δ jb 6) (.bool true)).setCell (Δ jb 7) (.int .i64 er)).drew.heap[ap]?=some (.deferred (some [])):=b4;have cx:=(aG.below b8).abide (grownBy_putObj' _ ap (.deferred none)) (λaz f=>by
   cases f
   rintro⟨a2,j,Q⟩;rw[cE]at j;injection j with j
   rw[<-j]at Q;cases Q)
  refine⟨cx,((Y.out.trans aw).below b8).touch.trans (KZ (grownBy_putObj' _ ap (.deferred none))) (λm f=>?_),λm T=>((Y.out.trans aw).own m T)⟩;cases f;exact .inr O)
end
section
open Go.RowKit
def yZ(s:St)(stamp:UInt64)(a:Wr):writeM ⟨.up (-1),s⟩ stamp a=(⟨.up (-1),(Gq s stamp a).1⟩,(Gq s stamp a).2):=by
 unfold writeM Gq;rw[show getD ⟨.up (-1),s⟩ a.key.data.toList=GH s a.key.data.toList from rfl];generalize GH s a.key.data.toList=e;obtain⟨v,f⟩:=e;simp only[qm];generalize Iq s ⟨stamp,v,a.gone,a.text⟩=c;obtain⟨b,pl,g⟩:=c;simp only[show TF ⟨.up (-1),b⟩ a.key.data.toList pl=Na ⟨.up (-1),b⟩ a.key.data.toList pl from rfl,Zz];generalize JD b a.key.data.toList pl=d;obtain⟨j,i⟩:=d;simp only[NV];split
 ·rfl
 split
 ·rfl
 split
 ·rfl
 split<;>rfl
def Aeg(s:St)(key:List UInt8)(v:UInt64):KI ⟨.up (-1),s⟩ key v=(⟨.up (-1),(O7 s key v).1⟩,(O7 s key v).2):=by
 unfold KI O7;rw[show sD ⟨.up (-1),s⟩ key=Ox ⟨.up (-1),s⟩ key from rfl,show TF ⟨.up (-1),s⟩ key v=Na ⟨.up (-1),s⟩ key v from rfl,oW,Zz];split<;>rfl
def Xg:∀(l:List Past)(s:St),QS ⟨.up (-1),s⟩ l=⟨.up (-1),MF s l⟩
 |[],_=>rfl
 |(b,v,c)::l,s=>by
  rw[QS,MF];unfold Jr;by_cases h:c=0
  ·simp only[if_pos h,ne_eq,not_true_eq_false,if_false];exact Xg l s
  ·simp only[if_neg h,Aeg,NV];by_cases a:(O7 s b.data.toList v).2≠0
   ·simp only[if_pos a]
   ·simp only[if_neg a,ne_eq,not_true_eq_false,if_false];exact Xg l _
section
variable{w:World}{x d p L:Nat}{q:Ms}{F:Nat->Prop}
def zf{X:Nat->Prop}{items:List Kv}(f:IW X L q.s items)(r:Rc)(h:(I9 q r).2.2=0):(I9 q r).2.1≠0:=by
 unfold I9 at h⊢;split at h
 ·exact absurd h (show¬(2:Int)=0 by decide)
 rename_i o;rw[if_neg o];cases e:CP q.s 1 with
 |none=>rw[e]at h;exact absurd h Θ
 |some p=>
  obtain⟨a,i⟩:=p;rw[e]at h;obtain⟨g,_,_,_,m,_⟩:=MB f.ok (.inl rfl) e;have v:=m.bounds g;have w:=g.sh.KT;have u:=f.ok.L1;have n:Aj a≠0:=λb=>by
   have:=congrArg UInt64.toNat b;rw[Dt O]at this;simp at this;omega
  simp only at h⊢;generalize Lj ⟨q.pw,i⟩ (JF (a/8) 8) (BK i.ws (a/8) (CW r))=j at h⊢;obtain⟨t,l⟩:=j;simp only at h⊢;by_cases c:l=0
  ·simp only[if_pos c]at h⊢;generalize IP t (a:Int)=k at h⊢;obtain⟨x,b⟩:=k;simp only at h⊢;by_cases d:b=0
   ·simp only[if_pos d];exact n
   ·simp only[if_neg d]at h;exact absurd h d
  ·simp only[if_neg c]at h;exact absurd h c
def Aeh(h:Yj w x d p L q F)(af:∀l,q.pw=.up l->∃Q items,IW Q L q.s items){jb:Nat}{stamp:UInt64}{vs D:Value}{en:Int}(H:Pv w jb x d p stamp vs D false en F)(a:Wr)(hy:Dx a=true):
 Calls prog 48 #[Az jb,VR a] w λe w'=>e=.returned (.tuple #[.agg #[.int .u64 ((writeM q stamp a).2.1.toNat:Int),.int .u64 ((writeM q stamp a).2.2.1.toNat:Int)],.int .i64 (writeM q stamp a).2.2.2])/\
  ∃f,Yj w' x d p L (writeM q stamp a).1 f/\Pv w' jb x d p stamp vs D false en f/\AP F f w w':=by
 have C:a.key.size<=16/\a.text.size<=40:=by
  unfold Dx at hy;simp only[Bool.and_eq_true,decide_eq_true_eq]at hy;exact⟨hy.1.1,hy.1.2⟩
 have n:=λb(M:η w b)=>Atr (q:=q) (h.below M) a.key C.1
 by_cases T:∃l,q.pw=.up l
 ·obtain⟨l,S⟩:=T;obtain⟨Q,items,V⟩:=af l S;have k:getD q a.key.data.toList=GH q.s a.key.data.toList:=by unfold getD;rw[S]
  have aa:∃v e,GH q.s a.key.data.toList=(v,e)/\((v=0/\e=7)\/(v≠0/\e=0)):=by
   rcases lI V a.key.data.toList C.1 with⟨v,e,al,I⟩|⟨e,am⟩
   ·exact⟨v,0,e,.inr ⟨I,rfl⟩⟩
   ·exact⟨0,7,e,.inl ⟨rfl,rfl⟩⟩
  obtain⟨v,e,B,J⟩:=aa;have R:¬(e≠0/\e≠7):=by rcases J with⟨_,rfl⟩|⟨_,rfl⟩<;>decide
  by_cases y:a.gone=true/\v=0
  ·have t:writeM q stamp a=(q,0,0,0):=by
    unfold writeM;rw[k,B];simp only;rw[if_neg R,if_pos y]
   rw[t];obtain⟨rfl,rfl⟩:=J.resolve_right (λh=>h.1 y.2);rw[k,B]at n;exact ig h H a (.inl ⟨rfl,y.1⟩) n
  ·have A:=λb(M:η w b)=>WG (q:=q) (h.below M).sys ⟨stamp,v,a.gone,a.text⟩ (by show a.text.size<=_;omega)
   have hpl:=zf V ⟨stamp,v,a.gone,a.text⟩;have t:writeM q stamp a=if(I9 q ⟨stamp,v,a.gone,a.text⟩).2.2≠0 then((I9 q ⟨stamp,v,a.gone,a.text⟩).1,0,0,(I9 q ⟨stamp,v,a.gone,a.text⟩).2.2)else
    if(TF (I9 q ⟨stamp,v,a.gone,a.text⟩).1 a.key.data.toList (I9 q ⟨stamp,v,a.gone,a.text⟩).2.1).2≠0 then((Eh (TF (I9 q ⟨stamp,v,a.gone,a.text⟩).1 a.key.data.toList (I9 q ⟨stamp,v,a.gone,a.text⟩).2.1).1 (Bg (I9 q ⟨stamp,v,a.gone,a.text⟩).2.1)).1,0,0,(TF (I9 q ⟨stamp,v,a.gone,a.text⟩).1 a.key.data.toList (I9 q ⟨stamp,v,a.gone,a.text⟩).2.1).2)
    else((TF (I9 q ⟨stamp,v,a.gone,a.text⟩).1 a.key.data.toList (I9 q ⟨stamp,v,a.gone,a.text⟩).2.1).1,v,(I9 q ⟨stamp,v,a.gone,a.text⟩).2.1,0):=by
    unfold writeM;rw[k,B];simp only;rw[if_neg R,if_neg y]
   unfold Vu at A;rw[t];generalize I9 q ⟨stamp,v,a.gone,a.text⟩=W at A hpl⊢;obtain⟨m,pl,c⟩:=W;simp only at A hpl⊢;have o:c=0->∀b O,IU m.pw.mode b x d p L m.s O->Calls prog 60 #[Az x,.string a.key,.int .u64 (pl.toNat:Int)] b _:=λu b O K=>Amz (q:=m) K a.key C.1 pl (hpl u)
   unfold KY at o;generalize TF m a.key.data.toList pl=X at o⊢;obtain⟨i,g⟩:=X;simp only at o⊢;have Y:c=0->g≠0->∀b E,IU i.pw.mode b x d p L i.s E->Calls prog 62 #[Az p,.int .i64 (Bg pl)] b λe N=>(∃v,e=.returned v)/\∃P,Ej (Eh i (Bg pl)).1.pw.mode N d p L (Eh i (Bg pl)).1.s P/\AP E P b N:=λ_ _ b E K=>(LV (q:=i) K.sys (Bg pl) (NL pl)).mono λe N j=>⟨⟨_,j.1⟩,j.2⟩
   have ah:∀{e:Ending}{w':World},(e=.returned (.tuple #[.agg #[.int .u64 (QG c g (v.toNat:Int) 0 0),.int .u64 (QG c g (pl.toNat:Int) 0 0)],.int .i64 (QG c g 0 g c)])/\
    ∃f,IU (QG c g i.pw.mode (Eh i (Bg pl)).1.pw.mode m.pw.mode) w' x d p L (QG c g i.s (Eh i (Bg pl)).1.s m.s) f/\Pv w' jb x d p stamp vs D false en f/\AP F f w w')->∀r,(r=if c≠0 then(m,0,0,c)else if g≠0 then((Eh i (Bg pl)).1,0,0,g)else(i,v,pl,0))->
    e=.returned (.tuple #[.agg #[.int .u64 (r.2.1.toNat:Int),.int .u64 (r.2.2.1.toNat:Int)],.int .i64 r.2.2.2])/\∃f,Yj w' x d p L r.1 f/\Pv w' jb x d p stamp vs D false en f/\AP F f w w':=λ{e w'}j r ad=>by
    subst ad;by_cases u:c=0
    ·subst u;by_cases G:g=0
     ·subst G;exact j
     ·simp only[NW G]at j;simp only[ne_eq,not_true_eq_false,if_false,if_pos (show¬g=0 from G)];exact j
    ·simp only[PV u]at j;simp only[ne_eq,if_pos (show¬c=0 from u)];exact j
   rw[k,B]at n;refine(WN h H a C.1 rfl ?_ n A o Y).mono λe w' j=>ah j _ rfl
   rcases J with⟨rfl,rfl⟩|⟨I,rfl⟩
   ·refine .inl ⟨rfl,rfl,?_⟩;cases ab:a.gone with
    |false=>rfl
    |true=>exact absurd ⟨ab,rfl⟩ y
   ·exact .inr ⟨rfl,λe=>I (DK.1 (by simp;omega))⟩
 ·have Z:∃z,q.pw=.down z:=by
   cases ac:q.pw with
   |up l=>exact absurd ⟨l,ac⟩ T
   |down z=>exact⟨z,rfl⟩
  obtain⟨z,o⟩:=Z;have k:getD q a.key.data.toList=(0,12):=by unfold getD;rw[o]
  have t:writeM q stamp a=(q,0,0,12):=by
   unfold writeM;rw[k];simp only;rw[if_pos U]
  rw[t];rw[k]at n;exact ig h H a (e0:=12) (.inr ⟨by decide,by decide⟩) n
end
section
variable{l:List Wr}{ps:List (UInt64×UInt64)}{hpl:ps.length<=l.length}{done:List Past}
def Xh:∀(D:List (Below' ps.length))(q:Ms),JB l ps hpl q D=QS q (D.map λx=>((l[x.1]'(BI x.2 hpl)).key,ps[x.1]'x.2))
 |[],_=>rfl
 |x::D,q=>by
  rw[JB,Ci,QS];unfold iZ;rw[Xh D]
def zg(c:ps=done.map Prod.snd)(g:∀b(h:b<done.length)(h2:b<l.length),done[b].1=l[b].key)(q:Ms):JB l ps hpl q (Ec ps.length ps.length)=QS q done.reverse:=by
 have j:ps.length=done.length:=by rw[c];simp
 have f:∀a,a<=ps.length->(Ec ps.length a).map (λx:Below' ps.length=>((l[x.1]'(BI x.2 hpl)).key,ps[x.1]'x.2))=done.reverse.take a:=λa=>by
  induction a with
  |zero=>intro _;rw[List.take_zero];rfl
  |succ a i=>
   intro h;rw[RS _ _ O,Dc,i O,CU (by rw[O9];omega)];have d:done.reverse[a]'(by rw[O9];omega)=done[ps.length-1-a]' O:=by
    rw[List.getElem_reverse];congr 1;omega
   have e:ps[ps.length-1-a]' O=(done[ps.length-1-a]' O).2:=by subst c;simp
   rw[d,Ci,List.map_nil];simp only[e,<-g (ps.length-1-a) O O]
 rw[Xh,f _ (Ad _),EP (by rw[O9];omega)]
end
def tu(l:List Wr)(ps:List (UInt64×UInt64))(hpl:ps.length<=l.length)(r:Ms×Int):Ms:=if r.2=0 then r.1 else JB l ps hpl r.1 (Ec ps.length ps.length)
section
variable{w w':World}{base jb x d p L:Nat}{s:St}{stamp:UInt64}{vs:Value}{l:List Wr}{ps:List (UInt64×UInt64)}{over:Bool}{en:Int}{F:Nat->Prop}{v:Value}
def tC{bi:Ef}{q:Ms}{er:Int}(am:er≠0)(h:EZ bi w base jb x d p L s stamp vs l ps false en F v)(hpl:ps.length<=l.length)(D:ps.length<l.length)(av:l.length<=100000)(an:∀B∈l,B.key.size<=16)
 (Y:∀a,η w a->Calls prog 48 #[Az jb,VR l[ps.length]] a λg ab=>g=.returned (.tuple #[.agg #[.int .u64 0,.int .u64 0],.int .i64 er])/\
  ∃j,Yj ab x d p L q j/\Pv ab jb x d p stamp vs v false en j/\AP F j a ab):
 Calls prog 24 #[Az jb] w λg w'=>g=.returned (.tuple #[.bool true,.int .i64 er])/\
  ∃j,EZ (JB l ps hpl q (Ec ps.length ps.length)).pw.mode w' base jb x d p L (JB l ps hpl q (Ec ps.length ps.length)).s stamp vs l ps true er j v/\AP (JG F jb v) (JG j jb v) w w':=by
 have aM:=Aa av;have aL:=Aa an;have bt:(er==0)=false:=ζ am;clear am;clear an;have ac:=Aa (kT jb _ h.box);have Z:=h.box.cell 6;have I:=h.box.cell 5;have H:=h.box.cell 4;have aH:=Aa h;obtain⟨aB,a5,G,bb,_⟩:=DR h.row;obtain⟨B,aq⟩:=ε (l[ps.length]);obtain⟨C,J,a4,E,ba,V,bd,K,M,N⟩:=h.set.at ps.length D;rw[<-aq]at K M N Y;obtain⟨i,W⟩:=ε ps.length;obtain⟨bj,ao⟩:=ε l.length;rw[<-ao]at E av D;rw[<-W]at G K M N D bb;unfold Es at H I Z;simp only[Ag,AB]at H I Z;rw[E]at H;rw[G]at I;obtain⟨bq,br,bs⟩:=YB D;have a1:Hid (∀a,η w a->a.cell? (Δ jb 4)=some (.slice (some (Δ C J)) bj a4)/\a.cell? (Δ jb 5)=some (.slice aB i a5)/\a.cell? (Δ C (J+i*3))=some (.string B.key)/\a.cell? (Δ C (J+i*3+1))=some (.string B.text)/\a.cell? (Δ C (J+i*3+2))=some (.bool B.gone)):=Aa (λa z=>
  ⟨by rw[(h.box.ξ z).cell 4,<-E];rfl,by rw[(h.box.ξ z).cell 5,<-G];rfl,(Bh (w:=w) (z.block _ V)).trans K,(Bh (w:=w) (z.block _ V)).trans M,(Bh (w:=w) (z.block _ V)).trans N⟩)
 have R:=Aa Y;unfold VR at R;have bp:=h.box.lt;have Q:Hid (¬F w.heap.size):=Aa (λbc=>absurd (h.ix.sys.lt _ bc) O);have ar:Hid (0≠w.heap.size/\1≠w.heap.size):=Aa (Ω h.ix.sys.tabs.lt);have a0:Hid (x≠w.heap.size):=Aa (Ω h.ix.box.lt);have bm:=Aa W;clear h Y ba bd W ao aq E G;go_enter func24,ntmps24
 go_wp2_with fail
 refine ac.out.mono ?_;rintro g bw⟨rfl,rfl⟩
 go_wp2_with fail
 go_region
 all_goals(go_wp2_with fail)
 all_goals(
  go_region_with(go_at_call 48;refine(R.out _ (by first|exact((Dr.drew w).trans (Dr.drew _)).below _|exact(((Dr.drew w).trans (Dr.drew _)).below _).alloc (Ad _) _|exact((((Dr.drew w).below _).alloc (Ad _) _).drew))).mono ?_;rintro g e⟨rfl,k,o,af,n⟩;try(have r:CQ e w.heap.size 128 [.int .u64 0,.int .u64 0]:=(n.touch.block w.heap.size Θ Q.out).trans (heap_alloc_new _ _);have aw:=r.cell 0;have az:=r.cell 1;have a2:=r.frozen 0;have a3:=r.frozen 1;simp only[Ag,AB]at aw az)))
 all_goals(
  first
  |(have y:η w _:=((Dr.drew w).trans (Dr.drew _)).below w.heap.size
    have t:AP F k w e:=(AP.of_below y).trans n;obtain⟨f,b⟩:=ε (e.alloc (.cells #[.int .u64 0,.int .u64 0] 128));rw[<-b];have U:η e f:=b▸(Below.refl _ _).alloc (Ad _) _;have m:CQ f e.heap.size 128 [.int .u64 0,.int .u64 0]:=b▸heap_alloc_new _ _;have T:=o.below U;have S:AP F k w f:=t.below U;obtain⟨a7,u⟩:=ε e.heap.size;rw[<-u]at m⊢;clear y t b U u o af n)
  |(have y:η w _:=(((Below.refl w.heap.size w).alloc (Ad _) (.cells #[.int .u64 0,.int .u64 0] 128)).drew).drew
    have t:AP F k w e:=(AP.of_below y).trans n;obtain⟨f,b⟩:=ε ((e.setCell (Φ w.heap.size) (.int .u64 0)).setCell (Δ w.heap.size 1) (.int .u64 0));rw[<-b];have t6:Touch (λi=>i=w.heap.size) e f:=b▸((Touch.refl (λi=>i=w.heap.size) e).setCell (p:=Φ w.heap.size) (.inl rfl) _).setCell (p:=Δ w.heap.size 1) (.inl rfl) _;have m:CQ f w.heap.size 128 [.int .u64 0,.int .u64 0]:=by rw[b];exact(r.AZ 0 (.int .u64 0)).AZ 1 (.int .u64 0)
    have ap:¬k w.heap.size:=λa8=>(n.own _ a8).elim Q.out (λbe=>absurd be Θ)
    have T:Yj f x d p L q k:=⟨o.sys.keep t6 (λbo a9 g=>ap (g▸a9)) ar.out.1 ar.out.2,o.box.touch t6 a0.out,o.out⟩;have S:AP F k w f:=by rw[b];exact(t.set (p:=Φ w.heap.size) (.inr (Ad _)) _).set (p:=Δ w.heap.size 1) (.inr (Ad _)) _
    obtain⟨a7,u⟩:=ε w.heap.size;rw[<-u]at m⊢;clear y t b t6 ap u o af n r aw az a2 a3))
 all_goals(
  obtain⟨aa,al⟩:=aH.out.move T S;have bk:=m.cell 0;have bl:=m.cell 1;obtain⟨aD,a6,X,_,_⟩:=DR aa.row;have P:=Aa (λa(bh:η f a)=>Aa7 (q:=q) (A:=aD) (c:=a6) (by rw[<-X];exact aa.below bh) hpl aM.out aL.out er);rw[<-X]at P;have aR:=Aa al;clear T S m H I Z K M N R a1 ac Q aa al X
  go_wp2_with fail
  refine(P.out _ (Below.refl _ _)).mono ?_;rintro g bx⟨rfl,aE,ad,ah⟩;have aG:=Aa ad;have bg:=Aa ah;clear ad ah P bk bl
  go_wp2_with fail
  go_ret2;exact⟨rfl,aE,aG.out,aR.out.trans bg.out⟩)
def XP{q:Ms}(h:EZ q.pw.mode w base jb x d p L q.s stamp vs l ps false en F v)(G:ps.length=l.length)(aa:l.length<=100000)(V:∀az∈l,az.key.size<=16):
 Calls prog 24 #[Az jb] w λb w'=>b=.returned (.tuple #[.bool true,.int .i64 (Lj q 3 (D9 q.s.ws 8 stamp)).2])/\
  ∃K,Yj w' x d p L (tu l ps (JK G) (Lj q 3 (D9 q.s.ws 8 stamp))) K/\AP (JG F jb v) (JG K jb v) w w':=by
 have ao:=h.ix.sys.pos.2.2.1.fits;have ap:=h.ix.sys.pos.2.2.1.KT;obtain⟨aB,aD,Y⟩:=h.set.slice;obtain⟨ab,an,H,_,_⟩:=DR h.row;have am:=Aa (kT jb _ h.box);have I:=h.box.cell 6;have m:=h.box.cell 5;have k:=h.box.cell 4;have y:=h.box.cell 3;have u:=h.box.cell 0;unfold Es at u y k m I;simp only[Ag,AB]at u y k m I;rw[Y]at k;rw[H,G]at m;have M:=Aa h;have Q:=Aa H;have j:=Aa (λa(z:η w a)=>RG (q:=q) (h.ix.sys.below z) 8 stamp O);rw[show((8*8:Nat):Int)=64 from rfl]at j;obtain⟨aw,X⟩:=ε (Lj q 3 (D9 q.s.ws 8 stamp));rw[<-X]at j⊢;obtain⟨i,r⟩:=aw;simp only at j⊢;have N:Hid (∀a,Touch F w a->a.cell? (Φ jb)=some (Az d)/\a.cell? (Δ jb 3)=some (.int .u64 (stamp.toNat:Int))):=Aa (λa z=>⟨(h.box.touch z h.fj).cell 0,(h.box.touch z h.fj).cell 3⟩);have C:=Aa G;have al:=Aa aa;have ah:=Aa V;obtain⟨A,W⟩:=ε l.length;rw[<-W]at k m;have t1:decide ((A:Int)<(A:Int))=false:=decide_eq_false O;have t2:decide (A<A)=false:=decide_eq_false O;clear h ao ap Y H X W aa V;go_enter func24,ntmps24
 go_wp2_with fail
 refine am.out.mono ?_;rintro b aG⟨rfl,rfl⟩
 go_wp2_with fail
 go_region
 all_goals(go_wp2_with fail)
 all_goals(
  go_region_held3(λw'=>w'.cell? (Φ jb)=some (Az d)/\w'.cell? (Δ jb 3)=some (.int .u64 (stamp.toNat:Int)))
   (first|exact⟨u,y⟩|exact N.out _ o.touch)
   ((first|(go_at_call 50;refine(j.out _ (((Dr.drew w).trans (Dr.drew _)).below _)).mono ?_;rintro b e⟨rfl,n,U,Z⟩;have o:AP F n w e:=(AP.of_below (((Dr.drew w).trans (Dr.drew _)).below _)).trans Z))))
 all_goals(
  obtain⟨g,D⟩:=M.out.move (m1:=i.pw.mode) (s':=i.s) (M.out.ix.move U o) o;have c:=Aa g;have P:=Aa D;clear o Z U j N u y k m I;by_cases t:r=0
  ·subst t;have R:=g.box.cell 6;have f6:=g.box.frozen 6;unfold Es at R;simp only[Ag,AB]at R;clear g D
   go_wp2_with fail
   go_ret2;have J:Touch (λf=>f=jb) e (e.setCell (Δ jb 6) (.bool true)):=(Touch.refl (λf=>f=jb) e).setCell (p:=Δ jb 6) (.inl rfl) _;have av:AP (JG n jb v) (JG n jb v) e (e.setCell (Δ jb 6) (.bool true)):=⟨J.mono (λf b=>.inr (.inl b)),λf E=>.inl E⟩;exact⟨rfl,n,by rw[show tu l ps (JK C.out) (i,0)=i from if_pos rfl];exact⟨c.out.ix.sys.keep J (λf E b=>c.out.fj (b▸E)) c.out.gj.1 c.out.gj.2,c.out.ix.box.touch J c.out.xj,c.out.ix.out⟩,P.out.trans av⟩
  ·have aE:(r==0)=false:=ζ t;have af:=Aa t;have B:=Aa (λa(ar:η e a)=>Aa7 (q:=i) (A:=ab) (c:=an) (by rw[<-Q.out];exact g.below ar) (JK C.out) al.out ah.out r);rw[<-Q.out]at B;clear g D t
   go_wp2_with fail
   refine(B.out _ (Below.refl _ _)).mono ?_;rintro b aH⟨rfl,ac,S,T⟩;have ad:=Aa S;have aq:=Aa T;clear S T B
   go_wp2_with fail
   go_ret2;exact⟨rfl,ac,by rw[show tu l ps (JK C.out) (i,r)=_ from if_neg af.out];exact ad.out.ix,P.out.trans aq.out⟩)
end
def VF(l:List Wr)(done:List Past):Prop:=∀a(_:a<done.length)(_:a<l.length),done[a].1=l[a].key
def VF.app{l:List Wr}{done:List Past}(h:VF l done)(e:done.length<l.length)(v q:UInt64):VF l (done++[(l[done.length].key,v,q)]):=λa c d=>by
 by_cases b:a<done.length
 ·rw[List.getElem_append_left b];exact h a b d
 ·obtain rfl:a=done.length:=by simp at c;omega
  simp
structure tH(L:Nat)(s0:St)(items:List Kv)(ch:List UInt8->List Lk)(stamp:UInt64)(G:UInt64->List Kv->(List UInt8->List Lk)->Prop):Prop where
 job:∀dn it c,Hist L items ch dn it c->G (s0.ws 8) it c
 put:∀dn it c k(o:Nat)v g t its,Hist L items ch dn it c->PY it its k (Aj o)->G (s0.ws 8) its (EK c k ⟨o,⟨stamp,v,g,t⟩⟩)
 slot:∀dn it c,Hist L items ch dn it c->G stamp it c
def Upd(l0:Int)(L:Nat)(s0:St)(G:UInt64->List Kv->(List UInt8->List Lk)->Prop)(q:Ms)(R:St->Prop):Prop:=
 (∃a,(l0= -1->a= -1)/\q.pw=.up a/\R q.s)\/(l0≠ -1/\Dn (Found L s0 G) q)
def zh(l0:Int)(L:Nat)(s0:St)(items:List Kv)(ch:List UInt8->List Lk)(stamp:UInt64)(l:List Wr)(G:UInt64->List Kv->(List UInt8->List Lk)->Prop)(q:Ms)(ps:List (UInt64×UInt64)):Prop:=
 Upd l0 L s0 G q (λs=>∃a:Ah3,a.s=s/\a.done.map Prod.snd=ps/\Aa4 L s0 items ch stamp l a/\VF l a.done)
def NQ(L:Nat)(s0:St)(items:List Kv)(ch:List UInt8->List Lk)(stamp:UInt64)(c:Int)(s':St):Prop:=
 (c=6/\Ce L s' items ch/\MC s0 s')\/
 (c=0/\s'.ws 8=stamp/\s'.sh=s0.sh/\(∀a,a<16->a≠8->a≠9->s'.ws a=s0.ws a)/\∃b c,Ce L s' b c/\∀d,∀e∈c d,e.rc.stamp.toNat<=stamp.toNat)
def zi(q:Ms)(stamp:UInt64)(a:Wr)(h:(writeM q stamp a).2.2.2≠0):(writeM q stamp a).2.1=0/\(writeM q stamp a).2.2.1=0:=by
 unfold writeM at h⊢;generalize getD q a.key.data.toList=d at h⊢;obtain⟨v,k⟩:=d;simp only at h⊢;generalize I9 q ⟨stamp,v,a.gone,a.text⟩=b at h⊢;obtain⟨j,pl,l⟩:=b;simp only at h⊢;generalize TF j a.key.data.toList pl=c at h⊢;obtain⟨n,m⟩:=c;simp only at h⊢;split
 ·exact⟨rfl,rfl⟩
 split
 ·exact⟨rfl,rfl⟩
 split
 ·exact⟨rfl,rfl⟩
 split
 ·exact⟨rfl,rfl⟩
 ·rename_i e f g i;rw[if_neg e,if_neg f,if_neg g,if_neg i]at h;exact absurd rfl h
section
variable{l0:Int}{L:Nat}{s0:St}{items:List Kv}{ch:List UInt8->List Lk}{stamp:UInt64}{l:List Wr}{G:UInt64->List Kv->(List UInt8->List Lk)->Prop}{q:Ms}{ps:List (UInt64×UInt64)}
def tJ{Good:(Nat->UInt64)->Prop}(h:Dn Good q)(hpl:ps.length<=l.length):JB l ps hpl q (Ec ps.length ps.length)=q:=by
 rw[Xh];exact bf _ h
def Dn.found{s:St}(h:Dn (Found L s G) q)(a:MC s0 s):Dn (Found L s0 G) q:=
 h.mono λe b=>b.from a.1 (λc d=>a.2 c O O)
def zk(Y:zh l0 L s0 items ch stamp l G q ps)(m:tH L s0 items ch stamp G)(ab:ps.length<l.length)(I:∀a∈l,Dx a=true)(am:VQ l)(t:stamp.toNat≠0)(K:∀ao,∀a∈ch ao,a.rc.stamp.toNat<stamp.toNat){a:Wr}(hy:a=l[ps.length]):
 ((writeM q stamp a).2.2.2=0->zh l0 L s0 items ch stamp l G (writeM q stamp a).1 (ps++[((writeM q stamp a).2.1,(writeM q stamp a).2.2.1)]))/\
 ((writeM q stamp a).2.2.2≠0->∀hpl:ps.length<=l.length,Upd l0 L s0 G (JB l ps hpl (writeM q stamp a).1 (Ec ps.length ps.length)) (NQ L s0 items ch stamp (writeM q stamp a).2.2.2)):=by
 have P:Dx a=true:=I a (hy▸BH ab);have j:l0≠ -1->Dn (Found L s0 G) (writeM q stamp a).1->((writeM q stamp a).2.2.2=0->zh l0 L s0 items ch stamp l G (writeM q stamp a).1 (ps++[((writeM q stamp a).2.1,(writeM q stamp a).2.2.1)]))/\
  ((writeM q stamp a).2.2.2≠0->∀hpl:ps.length<=l.length,Upd l0 L s0 G (JB l ps hpl (writeM q stamp a).1 (Ec ps.length ps.length)) (NQ L s0 items ch stamp (writeM q stamp a).2.2.2)):=λb d=>
  ⟨λ_=>.inr ⟨b,d⟩,λ_ hpl=>.inr ⟨b,by rw[tJ d hpl];exact d⟩⟩
 rcases Y with⟨w,Z,M,c,C,af,H,D⟩|⟨b,d⟩
 ·obtain⟨aB,s⟩:=q;simp only at M C;subst M C af;have av:(c.done.map Prod.snd).length=c.done.length:=by simp
  have p:c.done.length<l.length:=O;have u:a=l[c.done.length]:=by rw[hy];congr 1
  have i:=step_ok H I am t K;have ac:=H;obtain⟨⟨an,z,n,J,X,ar⟩,o,_,ah,_⟩:=ac;have A:c.s.ws 8=s0.ws 8:=o.2 8 U U;have y:∀x∈z (CG a.key.data.toList),x.rc.stamp.toNat<stamp.toNat:=λaq Q=>by
   rw[X c.done.length (Ad _) a (by rw[u];exact Ae p)]at Q;exact K _ aq Q
  unfold NF at i;rw[if_neg (by rw[ah];decide),Ae p]at i;simp only[<-u]at i;have R:(∃f,(l0= -1->f= -1)/\writeM ⟨.up w,c.s⟩ stamp a=(⟨.up f,(Gq c.s stamp a).1⟩,(Gq c.s stamp a).2))\/(l0≠ -1/\Dn (Found L s0 G) (writeM ⟨.up w,c.s⟩ stamp a).1):=by
   by_cases g:l0= -1
   ·rw[Z g];exact .inl ⟨-1,λ_=>rfl,yZ _ _ _⟩
   ·rcases Ad7 J.y stamp a P t y w (G:=G) (by rw[A];exact m.job _ _ _ n) (λaz v aw ad=>by rw[A];exact m.put _ _ _ _ _ _ _ _ _ n ad)with⟨f,S⟩|d
    ·exact .inl ⟨f,λe=>absurd e g,S⟩
    ·exact .inr ⟨g,d.found o⟩
  rcases R with⟨f,E,W⟩|⟨b,d⟩
  ·rw[W];refine⟨λb=>?_,λb hpl=>?_⟩
   ·simp only at b⊢;rw[if_neg (by rw[b];simp)]at i;rcases i with⟨_,_,_,r⟩|⟨_,e,_⟩|⟨e,_⟩
    ·refine .inl ⟨f,E,rfl,_,rfl,?_,r,?_⟩
     ·simp
     ·show VF l (c.done++[(a.key,_,_)]);rw[u];exact D.app p _ _
    ·cases e
    ·omega
   ·simp only at b⊢;rw[if_pos b]at i;rcases i with⟨_,e,_⟩|⟨_,e,_,r,aa⟩|⟨e,_⟩
    ·cases e
    ·simp only[Prod.mk.injEq,true_and]at e;have N:=VB J stamp a P t y;rw[zg rfl D];rcases N.2 with⟨_,al⟩|⟨k,_⟩|⟨_,_,_,k,_⟩
     ·have F:MC s0 (Gq c.s stamp a).1:=o.trans N.1;have B:NQ L s0 items ch stamp (Gq c.s stamp a).2.2.2 (MF (Gq c.s stamp a).1 c.done.reverse):=.inl ⟨e,r,aa⟩;by_cases g:l0= -1
      ·rw[E g,Xg];exact .inl ⟨-1,λ_=>rfl,rfl,B⟩
      ·rcases Ah8 n f al (G:=G) (λj an z d=>by rw[F.2 8 U U];exact m.job _ _ _ d)with⟨ap,T⟩|d
       ·rw[T];exact .inl ⟨ap,λV=>absurd V g,rfl,B⟩
       ·exact .inr ⟨g,d.found F⟩
     ·rw[k]at b;exact absurd rfl b
     ·rw[k]at b;exact absurd rfl b
    ·omega
  ·exact j b d
 ·refine j b ?_;rw[Ah5 d];exact d
def Aei(D:zh l0 L s0 items ch stamp l G q ps)(m:tH L s0 items ch stamp G)(e:ps.length=l.length)(I:∀j∈l,Dx j=true)(N:VQ l)(K:stamp.toNat≠0)(M:∀P,∀j∈ch P,j.rc.stamp.toNat<stamp.toNat):
 Upd l0 L s0 G (tu l ps (JK e) (Lj q 3 (D9 q.s.ws 8 stamp))) (NQ L s0 items ch stamp (Lj q 3 (D9 q.s.ws 8 stamp)).2):=by
 have k:Dn (Found L s0 G) (Lj q 3 (D9 q.s.ws 8 stamp)).1->Dn (Found L s0 G) (tu l ps (JK e) (Lj q 3 (D9 q.s.ws 8 stamp))):=λb=>by
  unfold tu;split
  ·exact b
  ·rw[tJ b];exact b
 rcases D with⟨f,F,v,a,p,H,t,R⟩|⟨B,b⟩
 ·obtain⟨V,s⟩:=q;simp only at v p;subst v p H;have S:a.done.length=l.length:=by simpa using e
  have i:=step_ok t I N K M;obtain⟨⟨T,Q,o,u,_,_⟩,r,_,J,_⟩:=t;unfold NF at i;rw[if_neg (by rw[J];decide),List.getElem?_eq_none O]at i;have C:a.s.ws 8=s0.ws 8:=r.2 8 U U;rcases i with⟨g,_⟩|⟨g,_⟩|⟨_,_,_,x,y,z,A⟩
  ·omega
  ·omega
  have n:∀c,(l0= -1->c= -1)->Lj ⟨.up f,a.s⟩ 3 (D9 a.s.ws 8 stamp)=(⟨.up c,{a.s with ws:=D9 a.s.ws 8 stamp}⟩,0)->Upd l0 L s0 G (tu l (a.done.map Prod.snd) (JK e) (Lj ⟨.up f,a.s⟩ 3 (D9 a.s.ws 8 stamp))) (NQ L s0 items ch stamp (Lj ⟨.up f,a.s⟩ 3 (D9 a.s.ws 8 stamp)).2):=λc E d=>by
   rw[d];refine .inl ⟨c,E,?_⟩;unfold tu;rw[if_pos rfl];exact⟨rfl,.inr ⟨rfl,x,y,z,A⟩⟩
  by_cases d:l0= -1
  ·refine n (-1) (λ_=>rfl) ?_;rw[F d];exact Qq _ _ _
  ·rcases Tm (lf:=f) (s:=a.s) (Good:=Found L a.s G) 8 stamp (Og u.y (by rw[C];exact m.job _ _ _ o)) (yS u.y stamp (m.slot _ _ _ o))with⟨c,w⟩|b
   ·exact n c (λg=>absurd g d) w
   ·exact .inr ⟨d,k (b.found r)⟩
 ·exact .inr ⟨B,k (aO b 3 _)⟩
end
section
variable{w:World}{base jb x d p L:Nat}{l0:Int}{s0:St}{stamp:UInt64}{vs:Value}{l:List Wr}{F:Nat->Prop}{v:Value}{items:List Kv}{ch:List UInt8->List Lk}{q:Ms}{ps:List (UInt64×UInt64)}{G:UInt64->List Kv->(List UInt8->List Lk)->Prop}
def Aig(l0:Int)(w:World)(base jb x d p L:Nat)(s0:St)(stamp:UInt64)(vs:Value)(l:List Wr)(F:Nat->Prop)(v:Value)(items:List Kv)(ch:List UInt8->List Lk)(G:UInt64->List Kv->(List UInt8->List Lk)->Prop)(n:Nat)(e:Ending)(w':World):Prop:=
 (e=.returned (.tuple #[.bool false,.int .i64 0])/\n<l.length/\∃(a:Ms)(c:List (UInt64×UInt64))(b:Nat->Prop)(g:Value),zh l0 L s0 items ch stamp l G a c/\c.length=n+1/\EZ a.pw.mode w' base jb x d p L a.s stamp vs l c false 0 b g/\AP (JG F jb v) (JG b jb g) w w')\/
 (∃f:Int,e=.returned (.tuple #[.bool true,.int .i64 f])/\∃(a:Ms)(b:Nat->Prop),Upd l0 L s0 G a (NQ L s0 items ch stamp f)/\Yj w' x d p L a b/\AP (JG F jb v) (JG b jb v) w w')
def zl(h:EZ q.pw.mode w base jb x d p L q.s stamp vs l ps false 0 F v)(y:zh l0 L s0 items ch stamp l G q ps)(E:tH L s0 items ch stamp G)(hpl:ps.length<=l.length)(m:∀a∈l,Dx a=true)(M:VQ l)(z:l.length<=100000)(J:stamp.toNat≠0)(K:∀o,∀a∈ch o,a.rc.stamp.toNat<stamp.toNat):
 Calls prog 24 #[Az jb] w (Aig l0 w base jb x d p L s0 stamp vs l F v items ch G ps.length):=by
 have H:∀a∈l,a.key.size<=16:=λa c=>by
  have:=m a c;unfold Dx at this;simp only[Bool.and_eq_true,decide_eq_true_eq]at this;omega
 by_cases g:ps.length<l.length
 ·have B:∀N,q.pw=.up N->∃Q items,IW Q L q.s items:=λN i=>by
   rcases y with⟨_,_,_,ab,j,_,R,_⟩|⟨_,Z,j,_⟩
   ·obtain⟨⟨T,aa,_,B,_⟩,_⟩:=R;exact⟨_,T,j▸B.ix⟩
   ·rw[i]at j;cases j
  obtain⟨a,c⟩:=ε (l[ps.length]);have n:=λP(o:η w P)=>Aeh (q:=q) (stamp:=stamp) (h.ix.below o) B (h.below o).b a (m a (c▸BH g))
  obtain⟨u,A⟩:=zk y E g m M J K c;have C:=zi q stamp a;generalize writeM q stamp a=V at n u A C;obtain⟨r,U,pl,D⟩:=V;simp only at n u A C;by_cases k:D=0
  ·subst k;refine(qO (m1:=r.pw.mode) (s2:=r.s) (pv:=U) (pl:=pl) h g z (by rw[<-c];exact n)).mono ?_;rintro i w'⟨rfl,e,W,t,f⟩;exact .inl ⟨rfl,g,r,_,e,W,u rfl,by simp,t,f⟩
  ·obtain⟨X,Y⟩:=C k;subst X Y;refine(tC (q:=r) k h hpl g z H (by rw[<-c];exact n)).mono ?_;rintro i w'⟨rfl,e,t,f⟩;exact .inr ⟨D,rfl,_,e,A k hpl,t.ix,f⟩
 ·have I:ps.length=l.length:=O;refine(XP h I z H).mono ?_;rintro i w'⟨rfl,e,S,f⟩;exact .inr ⟨_,rfl,_,e,Aei y E I m M J K,S,f⟩
end
end
section
open Go.RowKit Go.Maps
def tK:∀(l:List (Int×Int))(i:Nat)(x:MapEntry),x∈I5 i l->∃p∈l,x.key=.int .i64 p.1
 |[],i,x,a=>by cases a
 |p::d,i,x,a=>by
  rcases Ea.1 a with rfl|a
  ·exact⟨p,BA ..,rfl⟩
  ·obtain⟨q,c,b⟩:=tK d _ x a;exact⟨q,BO _ c,b⟩
def VG:∀(n:Nat)(l:List (Int×Int)),l.length=n->(l.map (·.1)).Nodup->Go.MapKept.Stamped (I5 0 l).toArray l.length
 |0,l,a,_=>by
  have:l=[]:=List.eq_nil_of_length_eq_zero a;subst this;exact Go.MapKept.stamped_empty 0
 |n+1,l,a,h=>by
  rcases List.eq_nil_or_concat l with rfl|⟨d,e,rfl⟩
  ·simp at a
  ·rw[List.concat_eq_append]at a h⊢;obtain⟨c,v⟩:=e;rw[Dc,List.nodup_append]at h;have g:=VG n d (by simpa using a) h.1;rw[Zr,List.length_append];have i:=Go.MapKept.stamped_push g (key:=.int .i64 c) (val:=.int .i64 v) (λx k b=>by
    obtain⟨p,j,f⟩:=tK d 0 x (by simpa using k);rw[f]at b;injection b with _ b
    exact h.2.2 p.1 (BM.2 ⟨p,j,rfl⟩) c Θ b)
   simpa using i
def wf64{x:Int}(h: -9223372036854775808<=x)(k:x<=9223372036854775807):(Lit.int .i64 x).wf=true:=by
 have a:IntKind.i64.min= -9223372036854775808:=by decide
 have b:IntKind.i64.max=9223372036854775807:=by decide
 simp only[Lit.wf,a,b,Bool.and_eq_true,decide_eq_true_eq];exact⟨h,k⟩
def KU.owns{w:World}{m:Nat}{l:List (Int×Int)}(h:KU w m l)(o:(l.map (·.1)).Nodup)(a:∀p∈l,(Lit.int .i64 p.1).wf=true/\(Lit.int .i64 p.2).wf=true)(n:l.length<=maxLen):
 ∃d:DataW Unit,w.ownsMap prog 3 (plainElem prog 3) m l.length d/\(intKeys d).Perm (l.map (·.1))/\Maps.size d=l.length:=by
 have s:∀(l:List (Int×Int))(i:Nat),(∀p∈l,(Lit.int .i64 p.1).wf=true/\(Lit.int .i64 p.2).wf=true)->∀x∈I5 i l,∃p∈l,Go.WideElems.rd prog 3 (plainElem (H:=Unit) prog 3) x=some (.int .i64 p.1,.lit (.int .i64 p.2)):=by
  intro l;induction l with
  |nil=>intro i _ x b;cases b
  |cons p t j=>
   intro i a x b;rcases Ea.1 b with rfl|b
   ·refine⟨p,BA ..,?_⟩;obtain⟨f,g⟩:=a p (BA ..);exact Go.WideElems.rd_mk (keyOf_int_mk underlying3 f) (plainElem_int underlying3 g)
   ·obtain⟨q,r,e⟩:=j _ (λp c=>a p (BO _ c)) x b;exact⟨q,BO _ r,e⟩
 have k:∀(l:List (Int×Int))(i:Nat),(∀p∈l,(Lit.int .i64 p.1).wf=true/\(Lit.int .i64 p.2).wf=true)->(I5 i l).map (Go.WideElems.rg prog 3 (plainElem (H:=Unit) prog 3))=l.map λp=>(Lit.int .i64 p.1,DataW.lit (.int .i64 p.2)):=by
  intro l;induction l with
  |nil=>intro i _;rfl
  |cons p t j=>
   intro i a;obtain⟨f,g⟩:=a p (BA ..);simp only[I5,Ci];rw[j _ (λp c=>a p (BO _ c)),Go.WideElems.rg_of (Go.WideElems.rd_mk (keyOf_int_mk underlying3 f) (plainElem_int underlying3 g))]
 have c:=Go.WideShapes.sorted_perm (l.map λp=>((Lit.int .i64 p.1,DataW.lit (.int .i64 p.2)):Lit×DataW Unit));refine⟨_,⟨_,_,h,⟨by simp[Zt];exact n,VG _ l rfl o,λx b=>?_⟩,by simp[Zt],rfl⟩,?_,?_⟩
 ·obtain⟨p,_,e⟩:=s l 0 a x (by simpa using b);exact⟨_,e⟩
 ·rw[show((I5 0 l).toArray.toList)=I5 0 l by simp,k l 0 a];refine(c.map (λp=>Go.intOf p.1)).trans ?_;rw[Io];exact List.Perm.of_eq rfl
 ·rw[show((I5 0 l).toArray.toList)=I5 0 l by simp,k l 0 a];show(List.foldr DataW.insert [] _).length=_;rw[c.length_eq,BX]
def Aih(a:Nat)(w:World):Calls prog 65 #[.map (some a)] w λb w'=>b=.returned (.func (.func 112) #[] #[Az w.heap.size])/\w'=w.alloc (.cells #[.map (some a)] 157):=
 (callsIn_wide (n:=5)).1 (AnyZI.keys_in Tryz.keysA Fence.wide 5 trivial rfl (some a) w)
def Tryz.sortsA(m:Nat):AnyZI.SortsIn prog Tryz.sortedA_ren Fence.wide m:=
 ⟨λc g b i a d e f=>callsIn_wide.2 (AnyM.slices_Sort_int Tryz.sortA c g b i a d e f),
  λp b a=>callsIn_wide.2 (AnyM.slices_Sort_int_none Tryz.sortA p b a)⟩
def tN(c g:Nat)(w:World)(a:List Int)(k:w.cell? (Φ c)=some (.map (some g)))(z:KU w g (a.map λb=>(b,1)))(l:a.Nodup)(m:∀b∈a,0<=b/\b<=65536):
 Calls prog 64 #[.func (.func 112) #[] #[Az c]] w λj w'=>∃v,j=.returned v/\
  w'.ownsRow w.heap.size 3 1 v a.length ((a.mergeSort (λx D=>decide (x<=D))).map (Value.int .i64))/\η w w':=by
 have y:=World.block_lt_of_cell? w _ k;have E:a.length<=65537:=PR 65537 a l (λb e=>Ω (m b e));obtain⟨i,s,d,f⟩:=z.owns (by rw[Io];simpa[Function.comp_def]using l) (λp A=>by
  obtain⟨b,e,rfl⟩:=BM.1 A;have:=m b e;exact⟨wf64 (by simp only;omega) (by simp only;omega),wf64 (by simp only;omega) (by simp only;omega)⟩) (by rw[BX];unfold maxLen;omega)
 rw[Io]at d;replace d:(intKeys i).Perm a:=by simpa[Function.comp_def]using d
 rw[BX]at f;have B:=AnyZI.keys_gives (ρ:=Tryz.keysA_ren) {Tryz.keysA with} Fence.wide 2 trivial rfl O c g _ i w y k s;have r:=AnyZI.sorted_in Tryz.sortedA Fence.wide 5 trivial trivial trivial trivial rfl O (Tryz.sortsA _) (enters_of func37 Γ rfl) 112 #[Az c] trivial (enters_of func112 Γ rfl) _ _ (by rw[f];unfold maxLen;omega) (by rw[f];omega) _ B;refine((callsIn_wide (n:=5)).1 r).mono ?_;rintro j w'⟨v,C,rfl,t,o,_,u⟩;have q:C.Perm a:=t.trans d;rw[q.length_eq,mergeSort_of_perm_i q]at o;exact⟨v,rfl,o,u⟩
def Am0(l:List Int):List Int:=l.mergeSort λx a=>decide (x<=a)
section
variable{len:Mode}{w w':World}{x d p L:Nat}{s:St}{F:Nat->Prop}
def Aej(s:St)(w:World)(e:Ending)(w':World):Prop:=
 η w w'/\match DZ s with
  |none=>e=.returned (.tuple #[.slice none 0 0,.int .i64 5])
  |some (_,a)=>∃v,e=.returned (.tuple #[v,.int .i64 0])/\w'.ownsRow w.heap.size 3 1 v a.length ((Am0 a).map (Value.int .i64))/\a.length<=65537
def XQ(h:IU len w x d p L s F):Calls prog 33 #[Az x] w (Aej s w):=by
 have g:=Aa (V5 h);cases j:DZ s with
 |none=>
  have e:=Aa j;clear h j;go_enter func33,ntmps33
  go_wp2_with fail
  refine g.out.mono ?_;rintro i c⟨f,a⟩;rw[e.out]at a;replace a:i=.returned (.tuple #[.pointer none,.int .i64 5]):=a;subst a;have m:=Aa f;clear f g
  go_wp2_with fail
  go_ret2;refine⟨m.out,?_⟩;rw[e.out];rfl
 |some I=>
  obtain⟨N,r⟩:=I;have e:=Aa j;clear h j;go_enter func33,ntmps33
  go_wp2_with fail
  refine g.out.mono ?_;rintro i c⟨f,a⟩;rw[e.out]at a;obtain⟨O,k,v,rfl,o⟩:=a;have B:=o.box.cell 2;simp only[AB,Ag]at B;have m:=Aa f;have G:=Aa o;clear f g o
  go_wp2_with fail
  refine(Aih k c).mono ?_;rintro i l⟨rfl,q⟩;have n:η c l:=q▸(Below.refl _ _).alloc (Ad _) _;have z:l.cell? (Φ c.heap.size)=some (.map (some k)):=by
   have C:CQ l c.heap.size 157 [.map (some k)]:=q▸heap_alloc_new _ _;exact C.cell 0
  have b:=G.out.below n;have u:=Aa (tN c.heap.size k l r z b.map b.xP b.rng);have t:=Aa (τ m.out n);have E:Hid (r.length<=65537):=Aa (PR 65537 r b.xP (λK H=>Ω (b.rng K H)));clear q n z b B
  go_wp2_with fail
  refine u.out.mono ?_;rintro i P⟨M,rfl,A,y⟩;have D:=Aa (τ t.out y);have J:=Aa (iP A t.out.size);clear y A u
  go_wp2_with fail
  go_ret2;refine⟨D.out,?_⟩;rw[e.out];exact⟨M,rfl,J.out,E.out⟩
def Aek(len:Mode)(s:St)(w:World)(d p L:Nat)(F:Nat->Prop)(e:Ending)(w':World):Prop:=
 η w w'/\match DZ s with
  |none=>e=.returned (.tuple #[.pointer none,.int .i64 5])
  |some _=>∃x,e=.returned (.tuple #[Az x,.int .i64 0])/\IU len w' x d p L s F/\w.heap.size<=x
def bD(h:Ej len w d p L s F):Calls prog 20 #[Az d,Az p] w (Aek len s w d p L F):=by
 have o:=h.lt;obtain⟨M,m,k,-⟩:=Fz w 122 [Az d,Az p];have j:IU len M w.heap.size d p L s F:=⟨h.below k,m▸heap_alloc_new _ _,λE=>Ω (o _ E)⟩;have l:Calls prog 21 #[Az d] w λc w'=>c=.returned (.int .i64 (L*64:Nat))/\w=w':=by
  obtain⟨J,D,I,B,A,own,h,_⟩:=h;exact h.dev.size h.L1
 have T:0<L:=by obtain⟨J,D,I,B,A,own,h,_⟩:=h;exact h.L0
 have t0:(((L*64:Nat):Int)==0)=false:=ζ O;generalize L*64=V at l t0;have r:=Aa l;have f:=Aa (XQ j);have v:=Aa j;have u:=Aa k;have y:=Aa m;clear h l j k m o;go_enter func20,ntmps20
 go_wp2_with fail
 refine r.out.mono ?_;rintro c W⟨rfl,rfl⟩;clear r
 go_wp2_with fail
 rw[<-y.out];refine f.out.mono ?_;rintro c X⟨e,a⟩;have n:=Aa (τ u.out e);have x:=Aa (v.out.below e);cases b:DZ s with
 |none=>
  rw[b]at a;replace a:c=.returned (.tuple #[.slice none 0 0,.int .i64 5]):=a;subst a;have g:=Aa b;clear b e f
  go_wp2_with fail
  go_ret2;refine⟨n.out,?_⟩;rw[g.out];rfl
 |some G=>
  obtain⟨U,H⟩:=G;rw[b]at a;obtain⟨K,rfl,q,_⟩:=a;obtain⟨N,P,rfl⟩:∃t z,K=.slice t H.length z:=by
   rcases q.2 with⟨i,C⟩|⟨S,Q,R,i,_⟩
   ·exact⟨none,0,by rw[i,C]⟩
   ·exact⟨_,_,i⟩
  have g:=Aa b;clear b e f q
  go_wp2_with fail
  go_ret2;refine⟨n.out,?_⟩;rw[g.out];exact⟨_,rfl,x.out,Ad _⟩
end
end
section
open Go.RowKit
def wV(d p x:Nat):Value:=.agg #[Az d,Az p,Az x]
def zn(sh:Sh):DZ (st0 sh)=some ([],[]):=by
 unfold DZ;rw[if_pos (show(st0 sh).ws 9=0 from I7 sh 9 U)]
def Aa8{w:World}{L:Nat}{sh:Sh}(S:0<L)(R:L<=1024)(B:shapeOf L=some sh)(i:Tabs w):Calls prog 6 #[.int .i64 (L:Int)] w λe w'=>∃d p x F,e=.returned (.tuple #[wV d p x,.bool true])/\
 Ix w' x d p L (st0 sh) F/\η w w'/\(∀a,F a->w.heap.size<=a)/\w.heap.size<=x:=by
 obtain⟨T,z,j,o⟩:=Fz w 34 [.pointer none,.pointer none,.pointer none];have q:=Aa (xw S R B (i.below j));have Q:=Aa j;have t:=Aa o;have P:=Aa z;have J:=Aa i.lt;clear i B j o z;go_enter func6,ntmps6
 go_wp2_with fail
 rw[<-P.out];refine q.out.mono ?_;rintro e X⟨d,p,F,rfl,C,k,y⟩;have s:=Aa (bD C);have N:=Aa (τ Q.out k);have u:=Aa (t.out.ξ k);have r:Hid (∀a,F a->w.heap.size<a):=Aa (λa c=>Ψ (y a c) t.out.lt);clear q C k y
 go_wp2_with fail
 refine s.out.mono ?_;rintro e n⟨l,A⟩;rw[zn]at A;obtain⟨x,rfl,D,E⟩:=A;have b:=u.out.ξ l;have O:=Aa (τ N.out l);have f:=Aa D;have K:w.heap.size<x:=BI u.out.lt E;have f0:=b.frozen 0;have f1:=b.frozen 1;have f2:=b.frozen 2;obtain⟨U,V,W⟩:=b.p3;have M:=Aa b;clear s l D E b
 go_wp2_with fail
 have g:=((M.out.AZ 0 (Az d)).AZ 1 (Az p)).AZ 2 (Az x);have G:=g.cell 0;have H:=g.cell 1;have I:=g.cell 2;simp only[Ap,Au,Ag,AB]at G H I;have t3:Touch (λm=>m=w.heap.size) n (((n.setCell (Φ w.heap.size) (Az d)).setCell (Δ w.heap.size 1) (Az p)).setCell (Δ w.heap.size 2) (Az x)):=
  (((Touch.refl (λm=>m=w.heap.size) n).setCell (p:=Φ w.heap.size) (.inl rfl) _).setCell (p:=Δ w.heap.size 1) (.inl rfl) _).setCell (p:=Δ w.heap.size 2) (.inl rfl) _
 refine bodyPost_ret (v:=.tuple #[wV d p x,.bool true]) (by simp[results,results6,go_sem,G,H,I,wV]) rfl ?_;refine⟨d,p,x,F,rfl,⟨f.out.sys.keep t3 (λa c e=>Ω (r.out a c)) (Ω J.out) (Ω J.out),f.out.box.touch t3 (by show x≠_;omega),f.out.out⟩,?_,λa c=>Il (r.out a c),Il K⟩;exact((O.out.setCell (p:=Φ w.heap.size) (Ad _) _).setCell (p:=Δ w.heap.size 1) (Ad _) _).setCell (p:=Δ w.heap.size 2) (Ad _) _
def Apc{len:Mode}{w:World}{x d p L:Nat}{s:St}{F:Nat->Prop}(h:Ej len w d p L s F):Calls prog 23 #[wV d p x] w λe w'=>e=.returned (.int .u64 ((s.ws 8).toNat:Int))/\η w w':=by
 obtain⟨l,f,a,b⟩:=Fz w 34 [Az d,Az p,Az x];have m:=b.p1;have j:=h.pos.2.2.1.fits;have k:=h.pos.2.2.1.KT;have c:=Aa ((h.below a).load 8 O);rw[show((8*8:Nat):Int)=64 from rfl]at c;have g:=Aa a;have i:=Aa f;clear h a f b j k;unfold wV;go_enter func23,ntmps23
 go_wp2_with fail
 rw[<-i.out]
 go_wp2_with fail
 refine c.out.mono ?_;rintro e n⟨rfl,rfl⟩
 go_wp2_with fail
 go_ret;exact⟨rfl,g.out⟩
structure LkV where
 A:Option Addr
 c:Nat
 l:List Lk
def lkV(a:LkV):Value:=.slice a.A a.l.length a.c
def Yo(m:List (ByteArray×LkV)):List (ByteArray×Value):=m.map λq=>(q.1,lkV q.2)
def Alo(m:List (ByteArray×LkV))(q:ByteArray×LkV):Yo (m++[q])=Yo m++[(q.1,lkV q.2)]:=by simp[Yo]
structure XR(w:World)(mb base:Nat)(m:List (ByteArray×LkV)):Prop where
 map:TQ w mb (Yo m)
 rows:∀q∈m,LkR w q.2.A q.2.l/\q.2.l.length<=q.2.c/\∀a,q.2.A=some a->base<=a.block/\a.block<w.heap.size/\a.block≠mb
def XR.below{w w':World}{mb base:Nat}{m:List (ByteArray×LkV)}(h:XR w mb base m)(k:η w w'):XR w' mb base m:=
 ⟨h.map.below k,λq b=>⟨(h.rows q b).1.below k,(h.rows q b).2.1,λa c=>⟨((h.rows q b).2.2 a c).1,BI ((h.rows q b).2.2 a c).2.1 k.size,((h.rows q b).2.2 a c).2.2⟩⟩⟩
def Alp{w:World}{x d p L:Nat}{s:St}{F:Nat->Prop}(h:Ix w x d p L s F){e:List It}(aR:Ahr s=some e)(lk:It->List Lk)(a2:∀a∈e,Lu s a.v=some (lk a))(a0:e.Pairwise (λg c=>g.k≠c.k)):
 Calls prog 32 #[wV d p x] w λj w'=>∃i f,j=.returned (.tuple #[.map (some i),.bool true])/\XR w' i w.heap.size f/\w.heap.size<=i/\f.map (λq=>(q.1,q.2.l))=e.map (λa=>(a.k,lk a))/\η w w':=by
 obtain⟨n,ah,R,A⟩:=Fz w 34 [Az d,Az p,Az x];have bS:=A.cell 2;simp only[Ag,AB]at bS;have I:=Ahv (h.below R);rw[aR]at I;have I:=Aa I;have bN:=Aa (h.below R);have J:=Aa R;have bB:=Aa ah;have bk:Hid (∀B,Touch (λc=>n.heap.size<=c) n B->B.cell? (Φ w.heap.size)=some (Az d)/\B.cell? (Δ w.heap.size 1)=some (Az p)):=Aa (λB b=>⟨(A.touch b (Ω A.lt)).cell 0,(A.touch b (Ω A.lt)).cell 1⟩);have aH:=h.sys.lt;have b5:=h.sys.tabs.lt;have cl:n.heap.size=w.heap.size+1:=by rw[ah];simp
 have bm:=Aa (λB(b:Touch (λc=>n.heap.size<=c) n B)(bT:UInt64)=>SV (bN.out.sys.keep b (λc E cj=>Ω (aH c E)) O O) bT);have bp:=Aa a2;have bc:=Aa a0;have co:=λbO=>run_makeMap (P:=prog) 89 bO
 clear h R ah A aR a2 a0 aH b5;unfold wV;go_enter func32,ntmps32
 go_wp2_with fail
 rw[<-bB.out]
 go_wp2_with fail
 refine I.out.mono ?_;rintro j t⟨S,b8,ca,rfl,cf,W,ch,ce⟩;obtain⟨Y,X⟩:=ε (t.alloc (.map #[] 0));have al:η t Y:=X▸(Below.refl _ _).alloc (Ad _) _;have a4:TQ Y t.heap.size []:=X▸heap_alloc_new _ _;have K:=Aa (τ S al);have bw:=Aa W;have ar:=Aa al;have ad:Hid (XR Y t.heap.size w.heap.size []):=Aa ⟨a4,λq k=>nomatch k⟩;have bE:=Aa X;have ac:Hid (w.heap.size<=t.heap.size):=Aa (Bi J.out.size S.size);obtain⟨i,G⟩:=ε t.heap.size;have bd:Hid (n.heap.size<=i):=Aa (G▸S.size);have be:Hid (t.heap.size<=i):=Aa (JK G.symm);rw[<-G]at ad ac;clear I S W al a4 X
 go_wp2_with fail
 rw[<-bE.out]
 try rw[<-G]
 clear G
 go_wp2_with fail
 go_loopw [22](λz wr=>∃(b:Nat)(f:List (ByteArray×LkV)),b<=e.length/\z=.int .i64 (b:Nat)/\XR wr i w.heap.size f/\f.map (λq=>(q.1,q.2.l))=(e.take b).map (λa=>(a.k,lk a))/\Touch (λc=>c=i) Y wr)(λz _=>e.length-(intOf z).toNat)
 case atStart=>exact⟨0,[],Nat.zero_le _,rfl,ad.out,rfl,Touch.refl _ _⟩
 case round=>
  obtain⟨b,f,cg,rfl,a3,a5,am⟩:=hrel;have aa:=Aa a3;have ab:=Aa a5;have M:=Aa am;have bA:Hid (Touch (λc=>n.heap.size<=c) n wr):=Aa ((Touch.of_below K.out).trans (am.mono (λc E=>by subst E;exact bd.out)) (λ_ j=>.inl j));clear a3 a5 am ad;by_cases D:b<e.length
  ·obtain⟨c,cp,rfl,aL,a9,ba⟩:=bw.out.at b D;have b1:c≠i:=Ω be.out;have k:∀z,wr.cell? (Δ c z)=t.cell? (Δ c z):=λz=>Bh (w:=t) ((M.out.block c (BI aL ar.out.size) b1).trans (ar.out.block c aL))
   rw[<-k]at a9 ba;obtain⟨cn,b6,b7⟩:=YB D;have cm:=jh b O;have bt:Hid (∀q∈Yo f,q.1≠e[b].k):=Aa (λq k j=>by
    obtain⟨aq,W,rfl⟩:=BM.1 k;have m:(aq.1,aq.2.l)∈(e.take b).map (λa=>(a.k,lk a)):=ab.out▸BM.2 ⟨aq,W,rfl⟩;obtain⟨a,Q,C⟩:=BM.1 m;obtain⟨a7,b2,rfl⟩:=List.getElem_of_mem Q;have b3:a7<b:=by simp at b2;omega
    rw[List.getElem_take]at C;have bX:=(List.pairwise_iff_getElem.1 bc.out) a7 b O D b3;injection C with C _
    exact bX (C.trans j))
   have bo:=bp.out e[b] (BH D);have bR:Hid ((e.take (b+1)).map (λa=>(a.k,lk a))=(e.take b).map (λa=>(a.k,lk a))++[(e[b].k,lk e[b])]):=Aa (by rw[CU D,Dc];rfl);generalize lk e[b]=y at*;generalize e[b]=a at*;obtain⟨Z,ap,T,aw⟩:=Fz wr 103 [.string a.k,.int .u64 (a.v.toNat:Int)];have an:Touch (λc=>n.heap.size<=c) n Z:=bA.out.trans (Touch.of_below T) (λ_ j=>.inl j);have b0:=bk.out Z an;have av:=Aa (bm.out Z an a.v);obtain⟨d0,d1⟩:=b0;have bh:=Aa T;have bq:=Aa (aa.out.below T);have a8:=Aa aw;have bL:=Aa ap;rw[ap]at d0 d1;clear ap T an aw k
   go_wp2_with fail
   rw[<-bL.out];refine av.out.mono ?_;rintro j H⟨U,bb⟩;rw[bo]at bb;obtain⟨_,cr,rfl,af⟩:=bb;obtain⟨o,u,ao,aM,a6⟩:=Vs af;have aG:∀g,o=some g->Z.heap.size<=g.block/\g.block<H.heap.size:=λg aE=>by
    rcases af.2 with⟨m,_⟩|⟨cd,cb,cc,m,Q,C,_⟩
    ·rw[ao,aE]at m;cases m
    ·rw[ao,aE]at m;injection m with m
     injection m with m
     rw[m];exact⟨Q,(AA.1 C).1⟩
   subst ao;have V:=bq.out.below U;have az:=a8.out.ξ U;have cs:=az.p1;have cq:=Acu (P:=prog) underlying89 underlying9 H i (Yo f) a.k (.slice o y.length u) V.map bt.out;have br:=Aa V;have bi:=Aa (τ bh.out U);have bx:=Aa a6;have aB:=Aa aG;have bl:=Aa aM;have bg:=V.map.lt;clear av U af a6 aG V az aM a9 ba d0 d1
   go_wp2_with fail
   have t5:Touch (λc=>c=i) H (EF H i (WC 0 (Yo f++[(a.k,Ac o y.length u)])).toArray (Yo f++[(a.k,Ac o y.length u)]).length):=J4 _ _ _ _;have ck:w.heap.size<=wr.heap.size:=Bi (Bi J.out.size K.out.size) M.out.size;have aD:XR (EF H i (WC 0 (Yo f++[(a.k,Ac o y.length u)])).toArray (Yo f++[(a.k,Ac o y.length u)]).length) i w.heap.size (f++[(a.k,⟨o,u,y⟩)]):=by
    refine⟨by rw[Alo];exact NU _ _ _ _ bg,λq k=>?_⟩;have b9:=aa.out.map.lt;rcases List.mem_append.1 k with k|k
    ·obtain⟨bV,bW,N⟩:=br.out.rows q k;exact⟨Rd.touch bV t5 (λg r=>(N g r).2.2),bW,λg r=>⟨(N g r).1,BI (N g r).2.1 t5.size,(N g r).2.2⟩⟩
    ·rw[List.mem_singleton]at k;subst k;have ci:=a8.out.lt;exact⟨Rd.touch bx.out t5 (λg r=>by have:=aB.out g r;show g.block≠i;omega),bl.out,λg r=>by
      have m:=aB.out g r;have Q:=t5.size;exact⟨O,O,O⟩⟩
   have b4:(Yo f++[(a.k,Ac o y.length u)]).length=(Yo f).length+1:=by simp
   rw[b4]at aD t5;go_roundw
   case rel=>exact⟨b+1,f++[(a.k,⟨o,u,y⟩)],O,by go_num,aD,by rw[Dc,ab.out,bR.out];rfl,(M.out.trans (Touch.of_below bi.out) (λ_ j=>.inl j)).trans t5 (λ_ j=>.inl j)⟩
   case measure=>simp[intOf];omega
  ·obtain⟨b6,b7⟩:=uH D;have a1:e.take b=e:=EP O;have bs:Hid (f.map (λq=>(q.1,q.2.l))=e.map (λa=>(a.k,lk a))):=Aa (by rw[ab.out,a1]);have bj:Hid (η w wr):=Aa ((τ J.out K.out).trans (M.out.below (Bi J.out.size K.out.size) (λc E=>by subst E;exact ac.out)));clear a1
   go_wp2_with fail
   go_ret2;exact⟨i,f,rfl,aa.out,ac.out,bs.out,bj.out⟩
def TV{P:Program}{md:Region.Mode}{f:Array Oper}{b:Exit->Act->World->Prop}{S S':World->Prop}(d:∀w,S' w->S w):∀(fuel:Nat)(e:Array Bool)(a:Act)(w:World),wpAnyH P md f b S' fuel e a w->wpAnyH P md f b S fuel e a w
 |0,_,_,_,h=>h
 |fuel+1,_,_,_,h=>⟨h.1,λj i=>wpOp_mono (λg w' c=>⟨d w' c.1,TV d fuel _ g w' c.2⟩) (h.2 j i)⟩
section
variable{len:Mode}{w:World}{x d p L:Nat}{s:St}{F:Nat->Prop}
end
section
variable{w:World}{x d p L:Nat}{s:St}{F:Nat->Prop}{items:List Kv}{ch:List UInt8->List Lk}
def bF(w:World)(x d p L:Nat)(s:St)(F:Nat->Prop)(items:List Kv)(ch:List UInt8->List Lk)(e:Ending)(w':World):Prop:=
 (e=.returned (.int .i64 6)/\∃(a:St)(b:Nat->Prop),Ce L a items ch/\MC s a/\Ix w' x d p L a b/\AP F b w w')\/
 (e=.returned (.int .i64 0)/\∃(a:St)(b:Nat->Prop),(a.ws 8).toNat=(s.ws 8).toNat+1/\a.sh=s.sh/\(∀c,c<16->c≠8->c≠9->a.ws c=s.ws c)/\(∃g f,Ce L a g f/\∀i,∀j∈f i,j.rc.stamp.toNat<=(s.ws 8).toNat+1)/\Ix w' x d p L a b/\AP F b w w')
def Xi{w d w':World}{F a:Nat->Prop}{jb:Nat}{v:Value}(c:η w d)(e:w.heap.size<=jb)(m:AP (JG F jb (.slice none 0 0)) (JG a jb v) d w'):AP F a w w':=
 ⟨(Touch.of_below (F:=F) c).trans m.touch (λb h=>by
   rcases h with h|h|h
   ·exact .inl h
   ·exact .inr O
   ·cases h),λb h=>by
   rcases m.own b (.inl h)with(h|h|h)|h
   ·exact .inl h
   ·exact .inr O
   ·cases h
   ·exact .inr (Bi c.size h)⟩
def lY{md:Mode}(h:IU md w x d p L s F){v:Value}{l:List Wr}{G:Nat->Prop}(H:H7 w G v l)(ah:∀a2∈l,Dx a2=true)(an:VQ l)(aM:l.length<=16)(aG:(s.ws 8).toNat<60000)(n:Nat->Value->Nat->World->Prop)(T:Int->World->Prop)
 (X:∀jb vs f,w.heap.size<=jb->η w f->EZ md f w.heap.size jb x d p L s (s.ws 8+1) vs l [] false 0 F (.slice none 0 0)->n jb vs 0 f)
 (al:∀jb vs a wr,a<=l.length->n jb vs a wr->Calls prog 24 #[Az jb] wr λg w'=>(g=.returned (.tuple #[.bool false,.int .i64 0])/\a<l.length/\n jb vs (a+1) w')\/∃e:Int,g=.returned (.tuple #[.bool true,.int .i64 e])/\T e w'):
 Calls prog 8 #[wV d p x,v] w λg w'=>∃e:Int,g=.returned (.int .i64 e)/\T e w':=by
 obtain⟨k,ac,r,m⟩:=Fz w 34 [Az d,Az p,Az x];obtain⟨ar,av,aw⟩:=m.p3;obtain⟨az,e,rfl⟩:=H.slice;obtain⟨stamp,D⟩:=ε (s.ws 8+1);have I:stamp.toNat=(s.ws 8).toNat+1:=by rw[D,VV];simp;omega
 have ao:IntKind.u64.wrap (((s.ws 8).toNat:Int)+1)=(stamp.toNat:Int):=by rw[I,IntKind.wrap_u64];omega
 have B:Hid (∀c,η k c->c.cell? (Φ w.heap.size)=some (Az d)/\c.cell? (Δ w.heap.size 1)=some (Az p)/\c.cell? (Δ w.heap.size 2)=some (Az x)):=Aa (λc a=>⟨(m.ξ a).cell 0,(m.ξ a).cell 1,(m.ξ a).cell 2⟩);have N:=Aa (λc(a:η k c)=>Apc (x:=x) (((h.below r).below a).sys));have R:=Aa (λc(a:η k c)=>lV (x:=x) (((h.below r).below a).sys) ((H.below r).below a) ah an aM (stamp:=stamp) O O);have A:=Aa r;have aE:=Aa ac;have t:=Aa h;have P:Hid (∀jb vs f,w.heap.size<=jb->η w f->EZ md f w.heap.size jb x d p L s stamp vs l [] false 0 F (.slice none 0 0)->n jb vs 0 f):=Aa (λjb vs f=>by rw[D];exact X jb vs f);have aD:=Aa al;have a3:=Aa I;have a7:stamp.toNat≠0:=O;clear h H ah an al X r ac m D aG I;unfold wV at N⊢;go_enter func8,ntmps8
 go_wp2_with fail
 rw[<-aE.out]
 try go_wp2_with fail
 refine wp_region_held_drew (S:=(λw'=>w'.cell? (Φ w.heap.size)=some (Az d)/\w'.cell? (Δ w.heap.size 1)=some (Az p)/\w'.cell? (Δ w.heap.size 2)=some (Az x))) Γ ⟨ar,av,aw⟩ (λb=>?_);refine Fq 0 (Az w.heap.size) b ?_;refine Fq 1 (Az d) b (hy:=λw i=>by obtain⟨s0,K,M⟩:=i;go_simp) ?_;refine Fq 2 (.pointer (some (Δ w.heap.size 1))) b ?_;refine Fq 3 (Az p) b (hy:=λw i=>by obtain⟨s0,K,M⟩:=i;go_simp) ?_
 try simp only[Act.put,Aq,Am,Ah,Af,Ap,Au]
 refine Fq 4 (.pointer (some (Δ w.heap.size 2))) b ?_;refine Fq 5 (Az x) b (hy:=λw i=>by obtain⟨s0,K,M⟩:=i;go_simp) ?_;refine Fq 6 (.agg #[Az d,Az p,Az x]) b (hy:=λw i=>by obtain⟨s0,K,M⟩:=i;go_simp) ?_;refine Fq 9 (.slice az l.length e) b ?_
 try simp only[Act.put,Aq,Am,Ah,Af,Ap,Au]
 refine wpAnyH_ready (rs:=[7]) Γ Θ ?_;refine AllReadyH.cons rfl (λC q=>?_) AllReadyH.nil;go_simp;go_at_call 23;refine(N.out _ ((Dr.drew _).below _)).mono ?_;rintro g a1⟨rfl,U⟩;have j:η k a1:=((Dr.drew k).below _).trans U;refine q.out _ _ (B.out _ j) (λb=>?_);clear q C
 try simp only[Act.put,Aq,Am,Ah,Af,Ap,Au]
 refine Fq 8 (.int .u64 (stamp.toNat:Int)) b ?_
 try simp only[Act.put,Aq,Am,Ah,Af,Ap,Au]
 refine wpAnyH_ready (rs:=[10]) Γ Θ ?_;refine AllReadyH.cons rfl (λC q=>?_) AllReadyH.nil;go_simp;go_at_call 22;refine(R.out _ j).mono ?_;rintro g u⟨aq,jb,vs,rfl,aH,ad,af⟩;have o:η k u:=τ j aq;refine q.out _ _ (B.out _ o) (λb=>?_);clear q C
 try simp only[Act.put,Aq,Am,Ah,Af,Ap,Au]
 refine Fq 11 (.tuple #[Az jb,.int .i64 0]) b ?_;refine Fq 12 (Az jb) b ?_;refine Fq 13 (.int .i64 0) b ?_;refine Fq 14 (Az jb) b ?_
 try simp only[Act.put,Aq,Am,Ah,Af,Ap,Au]
 refine Fq 15 (.int .i64 0) b ?_
 try simp only[Act.put,Aq,Am,Ah,Af,Ap,Au]
 refine wpAnyH_done Γ ?_ _;have E:=t.out.sys.lt;have am:=t.out.sys.tabs.lt;have ap:=t.out.box.lt;have aR:=A.out.size;have W:w.heap.size<=jb:=Ψ o.size j.size;have Y:EZ md u w.heap.size jb x d p L s stamp vs l [] false 0 F (.slice none 0 0):=⟨(t.out.below A.out).below (o.mono (Ad _)),ad,World.ownsRow_nil _ _ _ _,af _ (λV a4 a5 h=>by
  rcases h with h|h|h
  ·have:=E V h;have:=j.size;omega
  ·omega
  ·cases h),λh=>Ω (E jb h),W,ap,am,(λh=>nomatch h),(λV h=>nomatch h)⟩
 have aB:Hid (η w u):=Aa (τ A.out o);have Q:=Aa (P.out jb vs u W aB.out Y);clear E am ap aR Y o j U aq ad af b ar av aw N R B aH ao P
 go_wp2_with fail
 go_loopw [30](λJ wr=>∃a:Nat,a<=l.length/\J=.int .i64 (a:Nat)/\n jb vs a wr)(λJ _=>20-(intOf J).toNat)
 case atStart=>exact⟨0,Nat.zero_le _,rfl,Q.out⟩
 case round=>
  obtain⟨a,aL,rfl,aa⟩:=hrel;have y:=Aa (aD.out jb vs a wr aL aa);have a0:(a:Int)<20:=O;have a8:decide ((a:Int)<20)=true:=decide_eq_true a0;have ao:=jh a O;clear aa Q
  go_wp2_with fail
  refine y.out.mono ?_;rintro g a9(⟨rfl,a6,Z⟩|⟨e,rfl,ab⟩)
  ·have z:=Aa Z;clear Z y
   go_wp2_with fail
   go_roundw
   case rel=>exact⟨a+1,O,by go_num,z.out⟩
   case measure=>simp[intOf];omega
  ·have z:=Aa ab;clear ab y
   go_wp2_with fail
   go_ret;exact⟨e,rfl,z.out⟩
def Aa9{lf:Int}(h:IU (.up (MU lf)) w x d p L s F)(U:Ce L s items ch){v:Value}{l:List Wr}{B:Nat->Prop}(V:H7 w B v l)(A:∀c∈l,Dx c=true)(D:VQ l)(S:l.length<=16)(I:(s.ws 8).toNat<60000)(W:∀b,∀c∈ch b,c.rc.stamp.toNat<=(s.ws 8).toNat)
 {G:UInt64->List Kv->(List UInt8->List Lk)->Prop}(y:tH L s items ch (s.ws 8+1) G):
 Calls prog 8 #[wV d p x,v] w λt w'=>∃e:Int,t=.returned (.int .i64 e)/\∃(g:Ms)(a:Nat->Prop),Upd lf L s G g (NQ L s items ch (s.ws 8+1) e)/\Yj w' x d p L g a/\AP F a w w':=by
 obtain⟨stamp,k⟩:=ε (s.ws 8+1);have ac:stamp.toNat=(s.ws 8).toNat+1:=by rw[k,VV];simp;omega
 have C:∀b,∀c∈ch b,c.rc.stamp.toNat<stamp.toNat:=λb c Z=>Ω (W b c Z)
 rw[<-k]at y⊢;refine lY (md:=MU lf) h V A D S I (λjb vs b wr=>∃(f:World)(q:Ms)(ps:List (UInt64×UInt64))(a:Nat->Prop)(n:Value),w.heap.size<=jb/\η w f/\zh lf L s items ch stamp l G q ps/\b=ps.length/\EZ q.pw.mode wr w.heap.size jb x d p L q.s stamp vs l ps false 0 a n/\AP (JG F jb (.slice none 0 0)) (JG a jb n) f wr)
  (λe w'=>∃(g:Ms)(a:Nat->Prop),Upd lf L s G g (NQ L s items ch stamp e)/\Yj w' x d p L g a/\AP F a w w') (λjb vs f E H u=>?_) (λjb vs b wr R M=>?_)
 ·rw[<-k]at u;exact⟨f,⟨.up lf,s⟩,[],F,_,E,H,.inl ⟨lf,id,rfl,⟨s,[],false,0⟩,rfl,rfl,Ady U stamp l C,λad h=>absurd h Θ⟩,rfl,u,AP.refl _ _⟩
 ·obtain⟨f,q,ps,a,n,r,o,P,rfl,K,z⟩:=M;refine(zl K P y R A D O O C).mono ?_;rintro t af(⟨rfl,T,m,aa,i,ab,Q,N,J,j⟩|⟨e,rfl,m,i,X,Y,j⟩)
  ·exact .inl ⟨rfl,T,f,m,aa,i,ab,r,o,Q,N.symm,J,z.trans j⟩
  ·exact .inr ⟨e,rfl,m,i,X,Y,Xi o r (z.trans j)⟩
def Aij(h:Ix w x d p L s F)(B:Ce L s items ch){v:Value}{l:List Wr}{G:Nat->Prop}(C:H7 w G v l)(A:∀a∈l,Dx a=true)(H:VQ l)(y:l.length<=16)(u:(s.ws 8).toNat<60000)(E:∀f,∀a∈ch f,a.rc.stamp.toNat<=(s.ws 8).toNat):
 Calls prog 8 #[wV d p x,v] w (bF w x d p L s F items ch):=by
 have D:(s.ws 8+1).toNat=(s.ws 8).toNat+1:=by rw[VV];simp;omega
 refine(Aa9 (lf:= -1) (G:=λ_ _ _=>True) h B C A H y u E ⟨λ_ _ _ _=>trivial,λ_ _ _ _ _ _ _ _ _ _ _=>trivial,λ_ _ _ _=>trivial⟩).mono ?_;rintro K w'⟨i,rfl,⟨N,n⟩,g,⟨M,z,m,k⟩|⟨o,_⟩,e,j⟩
 ·simp only at m k;subst m;rw[z rfl]at e;rcases k with⟨rfl,b,c⟩|⟨rfl,b,c,q,J,i,r,t⟩
  ·exact .inl ⟨rfl,n,g,b,c,e,j⟩
  ·exact .inr ⟨rfl,n,g,by rw[b,D],c,q,⟨J,i,r,λf a I=>Ω (t f a I)⟩,e,j⟩
 ·exact absurd rfl o
end
