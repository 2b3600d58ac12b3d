import Derived.ProofKit
import Derived.Test.YtfmkofmaabgbkaaGreatDoorJ38
set_option linter.defProp false
set_option maxHeartbeats 32000000
set_option maxRecDepth 100000
open Go.Lib renaming hid->Ac
open Nat renaming lt_of_lt_of_le->Be
open Go.World renaming cell?_of_block->BI
open List renaming getElem_toArray->Aq,getElem_cons_succ->Aj,getElem_cons_zero->Ai,setIfInBounds_toArray->Af,set_cons_zero->Ak,set_cons_succ->Au,getElem?_eq_getElem->Ah
open Go.Value renaming int->fP,string->fQ
open Go.IntKind renaming i64->gZ
namespace Go.Proofs.YtfmkofmaabgbkaaGreatDoor
open Go.RowKit
open Go.Proofs.Tryz
def Touch.old{F G:Nat->Prop}{w w':World}(h:Touch F w w')(c:∀k,k<w.heap.size->F k->G k):Touch G w w':=
 ⟨h.os,h.tape,h.output,h.size,λk a d=>h.block k a (λb=>d (c k a b))⟩
def scriptRuns_any(l:List UInt8)(A:Option Addr)(c:Nat)(r:Nat)(w:World)(d0:l.length<=maxLen)(dy:l.length<=c)(eP:r<256)(h:Bs w A l.length l)(C:Tabs w):Calls prog 3 #[.slice A l.length c,fP .u8 (r:Int)] w λf w'=>f=.returned (.bool true)/\η w w':=by
 have eV:=C.lt;obtain⟨bd,dO⟩:=ε (r%30);have cC:bd<30:=O1;obtain⟨e,ar⟩:=runs_shape bd cC;obtain⟨s,ce⟩:∃s,s=19+16*bd:=⟨_,rfl⟩;rw[<-ce]at ar;have cf:0<s:=O1;have cg:s<=1024:=O1;have bm:=Ac (alive21 C);have aE:=Ac (λH(b:η w H)=>scrDecode l A c H d0 dy (h.below b));have bq:=Ac (λH(b:η w H)=>egBegun cf cg ar (C.below b));obtain⟨d,aL⟩:=ε (decP l);rw[<-aL]at aE;have br:=Ac aL;have bN:Hid ((19+16*((r:Int)%30))=(s:Int)):=Ac O1;have ab:=Ac (eg0_ok cg ar);clear C h aL dO cC ce ar cf;go_enter func3,ntmps3
 go_wp2_with fail
 refine bm.mono ?_;rintro f fn⟨rfl,cw⟩;have Z:=Ac cw;clear cw bm
 go_wp2_with fail
 refine(aE _ Z.out).mono ?_;rintro f D⟨fj,rfl,a9,cx⟩;obtain⟨aw,dk,rfl,dG,cK⟩:=own_rowk a9;have N:=own_at a9;have y:=Ac (τ Z.out cx);have bC:=Ac cK;have F:=Ac N;have eR:=Z.size;clear cx a9 cK dG N Z aE;by_cases a5:150<d.length
 ·have t2:decide ((150:Int)<(d.length:Int))=true:=decide_eq_true O1
  go_wp2_with fail
  go_ret;exact⟨rfl,y.out⟩
 have t2:decide ((150:Int)<(d.length:Int))=false:=decide_eq_false O1
 go_wp2_with fail
 rw[bN.out];refine(bq _ y.out).mono ?_;rintro f u⟨b3,b7,cU,av,cW,b2,e6,em,rfl,P,a1,cz⟩;have co:∀a,(λa=>a<D.heap.size/\a≠0/\a≠1) a->a<D.heap.size/\a≠0/\a≠1:=λa p=>p
 have cc:=P.begunM cz co;have bo:=Ac (τ y.out a1);have aD:=Ac a1;have bt:=Ac cc;clear P a1 cz cc co
 go_wp2_with fail
 rw[bN.out];refine(bq _ bo.out).mono ?_;rintro f v⟨d2,al,be,bl,bk,aJ,e7,en,rfl,b9,I,cA⟩;have cd:=b9.begunM cA (X:=λa=>a<u.heap.size/\a≠0/\a≠1) (λa p=>p);have aV:EgM b7 b3 cU av cW b2 s (eg0 e) v (λa=>(a<D.heap.size/\a≠0/\a≠1)\/(u.heap.size<=a/\a<v.heap.size)):=EgM.frames _ _ _ _ bt.out (Touch.of_below I) (λa h=>h);have bp:=Ac (τ bo.out I);have ev:=Ac aV;have c5:=Ac cd;have c8:=ab;have ci:SpR v aw d:=Rd.below (Rd.below bC.out aD.out) I;have cE:d.length<=400:=O1;have bD:=Ac (λ(dr:∀a,((a<D.heap.size/\a≠0/\a≠1)\/(u.heap.size<=a/\a<v.heap.size))->a<v.heap.size)=>scrRunE aV c8.out (l:=d) (λeb d3=>decP_size l eb (by rw[<-br.out];exact d3)) cE dk ci dr (λi n=>.inl ⟨(F i n).2,Ψ ((F i n).1) y.size,Ψ ((F i n).1) y.size⟩));have eS:=aD.size;have eT:=I.size;clear b9 cA cd aV bt ci
 go_wp2_with fail
 refine(bD (λa h=>O1)).mono ?_;rintro f E⟨fk,de,ae,rfl,a4,ba,cl,cp,ds,dt,aX⟩;have cH:=own_blk ba;obtain⟨el,dj,rfl,dz,cJ⟩:=own_rowk ba;obtain⟨q,aZ⟩:∃q:Nat->Prop,q=λa=>(a<u.heap.size/\a≠0/\a≠1)\/(v.heap.size<=a/\a<E.heap.size):=⟨_,rfl⟩
 have cB:EgM al d2 be bl bk aJ s (eg0 e) E q:=by
  refine EgM.frames _ _ _ _ c5.out (aX.old λa p a8=>?_) (λa p=>by rw[aZ]at p;exact p);have k:¬(((a<D.heap.size/\a≠0/\a≠1)\/(u.heap.size<=a/\a<v.heap.size))\/a=0\/a=1):=a8;show a<u.heap.size/\_/\_;refine⟨?_,λf=>k (.inr (.inl f)),λf=>k (.inr (.inr f))⟩;by_cases h:a<u.heap.size
  ·exact h
  ·exact absurd (.inl (.inr ⟨O1,p⟩)) k
 have c4:=Ac cB;have bH:=Ac cl;have da:=Ac cJ;have c9:=Ac cH;have bA:=Ac a4;have bJ:=Ac aX;have z:=Ac aZ;have c1:=Ac I;have dc:=Ac cp;obtain⟨Y,a7⟩:=ε d.length;have bB:=Ac a7;rw[a4];rw[<-a7]at a5 t2 cE⊢;clear cl cJ cH aX aZ I cp ds dt ba dz cB bD a7 a4
 go_wp2_with fail
 go_loopw [54](λj wr=>∃(b:Nat)(B:Nat->Prop),b<=Y/\j=fP gZ (b:Int)/\(∀a,q a->B a)/\EgM al d2 be bl bk aJ s (stP (eg0 e) d b) wr B/\Touch (Outs q) E wr)(λj _=>Y-(intOf j).toNat)
 case atStart=>exact⟨0,q,Nat.zero_le _,rfl,λ_ h=>h,c4.out,Touch.refl _ _⟩
 case round=>
  obtain⟨b,B,eO,rfl,cr,P,C⟩:=hrel;have ac:=Ac cr;have bs:=Ac P;have x:=Ac C;clear cr P C;by_cases dU:b<Y
  ·have W:b<d.length:=Ω bB.out;have ap:∀i,aw=some i->i.block<D.heap.size/\i.block≠0/\i.block≠1:=λi n=>⟨(F i n).2,Ω ((F i n).1),Ω ((F i n).1)⟩
   have cj:SpR wr aw d:=Rd.touch (Rd.touch (Rd.below (Rd.below bC.out aD.out) c1.out) bJ.out (λi n h=>h (.inl (.inl (ap i n))))) x.out (λi n h=>h (.inl (by rw[z.out];exact .inl ⟨Ω ((ap i n).1),(ap i n).2⟩)));obtain⟨b1,e8,N,eN,fa,fb,fc,fd⟩:=cj.at b W;obtain⟨eZ,d4,d5⟩:=ltT dU;have eW:=wk1 b O1;have eq:=Ac N;subst N;clear ap cj
   go_wp2_with fail
   obtain⟨m,cn,R,az⟩:=newB wr 33 [fP gZ (d[b].what:Int),fP gZ (d[b].id:Int),fQ d[b].key,fQ d[b].text];rw[<-cn];clear cn;obtain⟨bL,_,_,ch,_,dq⟩:=bH.out;have cD:b<ae.length:=by rw[bA.out];exact W
   obtain⟨cN,cP,cQ,cR,M,ah,cS,d7,cT⟩:=dq b cD;obtain⟨g,o,dp,ct,dx⟩:=da.2 O1;have d1:=c9.out;subst dp;have aq:=d1 g rfl;have cs:B g:=ac _ (by rw[z.out];exact .inr ⟨aq.1,aq.2⟩);have dD:∀j,j<5->E.cell? (Δ g (o+b*5+j))=(avC ae[b])[j]?:=λj V=>by
    rw[Nat.add_assoc,dx (b*5+j) O1];exact flat_get avC 5 (λ_=>rfl) ae b j cD V
   generalize ae[b]=dg at*;obtain⟨eE,eD,eC,eA,eB⟩:=dg;simp only at cN cP cQ cR cS;subst cN cP cQ cR cS;have d6:¬Outs q g:=λh=>h (.inl (by rw[z.out];exact .inr ⟨aq.1,aq.2⟩))
   have cv:g<wr.heap.size:=Be ct x.size;have cy:∀j,j<5->m.cell? (Δ g (o+b*5+j))=_:=λj V=>(BI (w:=wr) (R.block g cv)).trans ((BI (w:=E) (x.block g ct d6)).trans (dD j V))
   have dv:g<m.heap.size:=Be cv R.size;have aa:Hid (∀(w':World)(G:Nat->Prop),Touch G m w'->¬G g->¬G wr.heap.size->(w'.cell? (Δ g (o+b*5))=some (fQ (ansP (eg0 e) d b).text)/\w'.cell? (Δ g (o+b*5+1))=some (.slice M (ansP (eg0 e) d b).pairs.length ah)/\w'.cell? (Δ g (o+b*5+2))=some (fP gZ (ansP (eg0 e) d b).n)/\w'.cell? (Δ g (o+b*5+3))=some (.bool (ansP (eg0 e) d b).done)/\w'.cell? (Δ g (o+b*5+4))=some (fP gZ (ansP (eg0 e) d b).e)/\w'.cell? (Φ wr.heap.size)=some (fP gZ (d[b].what:Int))/\w'.cell? (Δ wr.heap.size 1)=some (fP gZ (d[b].id:Int))/\w'.cell? (Δ wr.heap.size 2)=some (fQ d[b].key)/\w'.cell? (Δ wr.heap.size 3)=some (fQ d[b].text))):=Ac (λw' G cV d8 d9=>by
    have cY:=az.touch cV d9;obtain⟨bg,bh,bi,bj⟩:=cY.p4;have T:∀j,j<5->w'.cell? (Δ g (o+b*5+j))=_:=λj V=>(BI (w:=m) (cV.block g dv d8)).trans (cy j V)
    exact⟨T 0 U,T 1 U,T 2 U,T 3 U,T 4 U,bg,bh,bi,bj⟩)
   have ck:=aa m (λ_=>False) (Touch.refl _ _) id id;refine wp_region_held_drew (S:=λw'=>(w'.cell? (Δ g (o+b*5))=some (fQ (ansP (eg0 e) d b).text)/\w'.cell? (Δ g (o+b*5+1))=some (.slice M (ansP (eg0 e) d b).pairs.length ah)/\w'.cell? (Δ g (o+b*5+2))=some (fP gZ (ansP (eg0 e) d b).n)/\w'.cell? (Δ g (o+b*5+3))=some (.bool (ansP (eg0 e) d b).done)/\w'.cell? (Δ g (o+b*5+4))=some (fP gZ (ansP (eg0 e) d b).e)/\w'.cell? (Φ wr.heap.size)=some (fP gZ (d[b].what:Int))/\w'.cell? (Δ wr.heap.size 1)=some (fP gZ (d[b].id:Int))/\w'.cell? (Δ wr.heap.size 2)=some (fQ d[b].key)/\w'.cell? (Δ wr.heap.size 3)=some (fQ d[b].text))) Γ ck (λt=>?_);refine tk' 0 (.slice (some (Δ g o)) Y dj) t ?_;refine tk' 1 (fP gZ (b:Int)) t ?_
   try simp only[Act.put,Aq,Aj,Ai,Af,Ak,Au]
   refine tk' 2 (.pointer (some (Δ g (o+b*5)))) t ?_
   try simp only[Act.put,Aq,Aj,Ai,Af,Ak,Au]
   refine tk' 3 (.agg #[fQ (ansP (eg0 e) d b).text,.slice M (ansP (eg0 e) d b).pairs.length ah,fP gZ (ansP (eg0 e) d b).n,.bool (ansP (eg0 e) d b).done,fP gZ (ansP (eg0 e) d b).e]) t (hy:=λw aW=>by obtain⟨bg,bh,bi,bj,ec,ed,ee,ef,eg⟩:=aW;go_simp) ?_;refine tk' 4 (ptr0 al) t ?_
   try simp only[Act.put,Aq,Aj,Ai,Af,Ak,Au]
   refine tk' 5 (.agg #[fP gZ (d[b].what:Int),fP gZ (d[b].id:Int),fQ d[b].key,fQ d[b].text]) t (hy:=λw aW=>by obtain⟨bg,bh,bi,bj,ec,ed,ee,ef,eg⟩:=aW;go_simp) ?_
   try simp only[Act.put,Aq,Aj,Ai,Af,Ak,Au]
   refine wpAnyH_ready (rs:=[6]) Γ Θ ?_;refine AllReadyH.cons rfl (λaF Q=>?_) AllReadyH.nil;go_simp;go_at_call 9;have cL:=decP_size l d[b] (by rw[<-br.out];exact List.getElem_mem W);have cb:=λbO(bc:η m bO)=>doE (.inr rfl) (EgM.frames _ _ _ (λa=>B a\/(wr.heap.size<=a/\a<bO.heap.size)) bs.out (Touch.of_below (τ R bc)) (λa h=>h)) (stP_ok ab.out d b) d[b] cL.1 cL.2
   refine(cb _ ((Dr.drew m).below _)).mono ?_;rintro f K⟨t6,c0,e9,ea,e4,eL,eM,rfl,ad,cq,du,⟨ca,b8⟩,cm⟩;have b5:(doP (stP (eg0 e) d b) d[b]).2=ansP (eg0 e) d b:=by rw[ansP,Ah W]
   have dT:(ansP (eg0 e) d b).pairs.length<=100000:=by rw[<-b5];exact doP_len (stP_ok ab.out d b) d[b]
   rw[b5]at b8;obtain⟨bR,bS,bV,bX,cX,dh,bY,b0,ez⟩:=b8;simp only at bR bS bV bX bY;injection bY with eh ei ej
   subst bR bS bV bX eh ei ej;have ao:Touch (Outs (λa=>B a\/(wr.heap.size<=a/\a<m.drew.heap.size))) m K:=(Touch.of_below ((Dr.drew m).below _)).trans cm (λ_ h=>.inl h);refine Q.out _ _ (aa K _ ao (λh=>h (.inl (.inl cs))) (λh=>h (.inl (.inr ⟨Nat.le_refl _,Be az.lt ((Dr.drew m).below m.heap.size).size⟩)))) (λt=>?_);have cI:PrR K M (ansP (eg0 e) d b).pairs:=Rd.touch' (Rd.touch' (Rd.touch' d7 x.out (λa5 i n h=>h (.inl (by rw[z.out];have:=ch _ (cT O1 i n);exact .inr ⟨this.2.2,this.2.1⟩)))) (Touch.of_below (F:=λ_=>False) R) (λ_ _ _ h=>h)) ao (λa5 i n h=>h (.inl (.inl (ac _ (by rw[z.out];have:=ch _ (cT O1 i n);exact .inr ⟨this.2.2,this.2.1⟩)))));clear Q aF
   try simp only[Act.put,Aq,Aj,Ai,Af,Ak,Au]
   refine wpAnyH_ready (rs:=[7]) Γ Θ ?_;refine AllReadyH.cons rfl (λaF Q=>?_) AllReadyH.nil;go_simp;go_at_call 8;refine(Ar1 (ansP (eg0 e) d b) M c0 ah ea K dT cI b0).mono ?_;rintro f L⟨rfl,J⟩;have a0:Touch (Outs (λa=>B a\/(wr.heap.size<=a/\a<m.drew.heap.size))) m L:=ao.trans (Touch.of_below (F:=λ_=>False) J) (λ_ h=>h.elim);refine Q.out _ _ (aa L _ a0 (λh=>h (.inl (.inl cs))) (λh=>h (.inl (.inr ⟨Nat.le_refl _,Be az.lt ((Dr.drew m).below m.heap.size).size⟩)))) (λt=>?_);clear Q aF
   try simp only[Act.put,Aq,Aj,Ai,Af,Ak,Au]
   refine tk' 8 (.bool false) t ?_
   try simp only[Act.put,Aq,Aj,Ai,Af,Ak,Au]
   refine wpAnyH_done Γ ?_ _;have b6:stP (eg0 e) d (b+1)=(doP (stP (eg0 e) d b) d[b]).1:=by rw[stP,Ah W]
   have c7:Hid (EgM al d2 be bl bk aJ s (stP (eg0 e) d (b+1)) L ad):=Ac (by rw[b6];exact EgM.frames _ _ _ ad ca (Touch.of_below J) (λa h=>.inl h));have db:Hid (Touch (Outs q) E L):=Ac (x.trans ((Touch.of_below (F:=Outs q) R).trans a0 (λb1 h=>.inl (λdn=>h (dn.elim (λav=>.inl (.inl (ac b1 av))) .inr)))) (λ_ h=>.inl h));have dd:Hid (∀a,q a->ad a):=Ac (λa h=>cq a (.inl (ac a h)));clear a0 ao ca J cq du cm t cI b0 cb ck aa cy b6
   go_wp2_with fail
   go_roundw
   case rel=>exact⟨b+1,ad,O1,by go_num,dd.out,c7.out,db.out⟩
   case measure=>simp[intOf];omega
  ·have dS:b=Y:=O1;subst dS;have d4:decide ((b:Int)<(b:Int))=false:=decide_eq_false O1;have d5:decide (b<b)=false:=decide_eq_false O1;obtain⟨bL,_,_,_,a3,_⟩:=bH.out;rw[bA.out,<-bB.out]at a3;have dL:EgM b7 b3 cU av cW b2 s (stP (eg0 e) d b) wr (λa=>de a\/bL a):=by
    refine EgM.frames _ _ _ _ a3 (x.old λa p a8=>.inl (dc a (.inr ?_))) (λa h=>.inl h);have k:¬(q a\/a=0\/a=1):=a8;rw[z.out]at k;constructor
    ·by_cases h:u.heap.size<=a
     ·exact h
     ·exact absurd (.inl (.inl ⟨O1,λf=>k (.inr (.inl f)),λf=>k (.inr (.inr f))⟩)) k
    ·by_cases h:a<v.heap.size
     ·exact h
     ·exact absurd (.inl (.inr ⟨O1,p⟩)) k
   obtain⟨fe,bb⟩:=ε ((stP (eg0 e) d b).slot);obtain⟨eI,eo,JG,e2,e0,fh,ff,am,-,-⟩:=dL;obtain⟨eJ,ep,ey,e3,e1,fi,fg,an,-,-⟩:=bs.out;have es:=Ac am;have et:=Ac an;have er:=Ac (x.out);have bE:=Ac (egSlot am);have bG:=Ac (egSlot an);rw[<-bb]at bE bG;have ex:=Ac bb;have cM:(stP (eg0 e) d b).q.pw=.up (-1):=(stP_ok ab.out d b).up;have aM:=am;have aR:=an;rw[cM]at aM aR;have bw:=Ac (egBlocks aM);have bx:=Ac (λH(bc:η wr H)=>egBlocks (aR.below bc));clear am an a3 bb aM aR cM;obtain⟨e5,a6⟩:=ε ((allP (stP (eg0 e) d b).q.s).length);rw[<-a6]at bw bx;have ew:=Ac a6;clear a6
   go_wp2_with fail
   refine bE.mono ?_;rintro f K⟨rfl,rfl⟩
   go_wp2_with fail
   refine bG.mono ?_;rintro f L⟨rfl,rfl⟩
   go_wp2_with fail
   refine bw.mono ?_;rintro f K⟨fl,rfl,cF,a2⟩;obtain⟨cX,dh,rfl,_,_⟩:=own_rowk cF;have c6:=Ac (bx _ a2);have c2:=Ac a2;clear cF a2
   go_wp2_with fail
   refine c6.mono ?_;rintro f L⟨fm,rfl,cG,J⟩;obtain⟨ek,eK,rfl,_,_⟩:=own_rowk cG;have c3:=Ac (τ c2.out J);clear cG J
   go_wp2_with fail
   go_ret;have b4:η w E:=bp.trans (bJ.below bp.size (λa h=>by
    have k:¬(((a<D.heap.size/\a≠0/\a≠1)\/(u.heap.size<=a/\a<v.heap.size))\/a=0\/a=1):=h;by_cases p:w.heap.size<=a
    ·exact p
    ·have:=y.size;exact absurd (.inl (.inl ⟨O1,λf=>k (.inr (.inl f)),λf=>k (.inr (.inr f))⟩)) k))
   have dl:η w wr:=b4.trans (x.below b4.size (λa h=>by
    have k:¬(q a\/a=0\/a=1):=h;rw[z.out]at k;by_cases p:w.heap.size<=a
    ·exact p
    ·have:=y.size;exact absurd (.inl (.inl ⟨O1,λf=>k (.inr (.inl f)),λf=>k (.inr (.inr f))⟩)) k))
   exact⟨rfl,τ dl c3.out⟩
end Go.Proofs.YtfmkofmaabgbkaaGreatDoor
namespace Go.Proofs.YtfmkofmaabgbkaaGreatDoor.scriptRuns
open Go.Proofs.Tryz
def k10:(Rows.scriptRunsRow.inPlace==prog.inPlace 3)=true:=by kernel_rfl
def k11:(Rows.scriptRunsRow.unfollowed==prog.unfollowed 3)=true:=by kernel_rfl
def k12:(Rows.scriptRunsRow.recurses==prog.recurses 3)=true:=by kernel_rfl
def k13:(Rows.scriptRunsRow.named==prog.varsNamed 3)=true:=by kernel_rfl
def closed:joinedFacts prog 3 Tryz.f3 Rows.scriptRunsSpec Rows.scriptRunsRow=true:=by
 unfold joinedFacts;rw[k10,k11,k12,k13];kernel_rfl
