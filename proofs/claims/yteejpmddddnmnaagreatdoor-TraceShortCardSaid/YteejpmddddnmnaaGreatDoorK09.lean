import Derived.Sort.OwnSortedInts
import Derived.Test.YteejpmddddnmnaaGreatDoorK08
set_option linter.defProp false
set_option maxHeartbeats 32000000
set_option maxRecDepth 100000
open List renaming map_append->CJ,length_mergeSort->Abu,length_pos_iff->QI,length_nil->CV,getElem?_eq_some_iff->Cf,length_append->AO,take_length->I7,getElem?_eq_getElem->Ag,getElem?_map->CP,replicate->BJ,getElem?_cons_zero->Af,getElem?_cons_succ->Ai
open Array renaming getElem?_eq_some_iff->AL
open Go.Lib renaming hid->Ac
open Nat renaming le_refl->Ae,lt_of_lt_of_le->Bc,add_assoc->JD,zero_le->Bd,le_trans->AZ
open Go.Value renaming slice->fM,int->gz,string->ig,tuple->iJ,agg->iK,pointer->iL
open Go.Ending renaming returned->iO
open Go.IntKind renaming i64->iU,u64->iV
open Go.Obj renaming cells->ji
open Option renaming some->jm,none->jw
open Bool renaming true->jO,false->jS
open Go renaming World->jT,Value->ku
namespace Go.Proofs.YteejpmddddnmnaaGreatDoor
open Go.Proofs.Tryz
section
open Go.RowKit Go.Maps Go.Shelf
def nP(l:List Int):List Value:=l.map (Value.int iU)
def As9(a b:List Int):nP (a++b)=nP a++nP b:=CJ
def VN(l:List Int):(FH l).length=l.length:=Abu _
def Ata(l:List Int):∀a∈nP l,a.oneCell'=true:=λa b=>by
 obtain⟨c,_,rfl⟩:=List.mem_map.1 b;rfl
def Ao3{w:jT}{pI:Nat}{v:ku}(a:List Int)(h:w.ownsRow pI 3 1 v a.length (nP a))(l:pI<=w.heap.size)(r:a.length<=1000000000):
 Calls prog 92 #[v] w λb w'=>b=iO (iJ #[])/\w'.ownsRow pI 3 1 v a.length (nP (FH a))/\Below pI w w':=by
 rcases h.2 with⟨rfl,i⟩|⟨g,f,q,rfl,k,c,p,m,n,e⟩
 ·have o:a=[]:=List.eq_nil_of_length_eq_zero i;subst o;refine(AnyM.slices_Sort_int_none Tryz.sortA jw 0 w).mono ?_;rintro b w'⟨rfl,rfl⟩;exact⟨rfl,by simpa[FH,nP]using h,mZ⟩
 ·rw[Nat.mul_one]at e;refine(AnyM.slices_Sort_int Tryz.sortA g 0 f a w (holds_of_blockI c e) (AL.1 c).1 O).mono ?_;rintro b w'⟨rfl,t,u,rfl⟩;refine⟨rfl,ownsRow_sortedI (Abu _) k c p m n,?_⟩;exact mZ.grown (grownBy_sortedI _) l (λs d=>by injection d with d;omega)
def Ao4{w:jT}{A:Option Addr}{c:Nat}(l:List Int)(d:Rd w A (l.length*1) (nP l))(g:l.length<=100000):
 Calls prog 90 #[fM A l.length c] w λa w'=>∃i,a=iO i/\w'.ownsRow w 3 1 i l.length (nP l)/\η w w':=by
 have u:=λo=>Lib.run_eql_slice_nil (P:=prog) o 117 3 A l.length c 0 0 underlying117
 cases A with
 |none=>
  have t:l=[]:=by
   by_cases a:l=[]
   ·exact a
   ·obtain⟨b,x,q,_⟩:=d.2 (Ω (QI.2 a));cases q
  subst t;simp only[CV]at u;clear d;go_wp2;go_ret;exact⟨_,rfl,⟨by simp[nP],.inl ⟨rfl,rfl⟩⟩,mZ⟩
 |some p=>
  have n:=Ac d;have k:=Ac g;have f:η w (w.alloc (ji #[] 3)):=mZ.alloc (Ae _) _;have e:=Ac f;have m:Hid ((w.alloc (ji #[] 3)).ownsRow w 3 1 (fM (jm (Φ w)) 0 0) 0 []):=Ac ⟨rfl,.inr ⟨w,0,#[],rfl,Ae _,heap_alloc_new _ _,Ae _,by decide,rfl,rfl⟩⟩;clear f d g;go_in;go_wp2_with(at_builtin;refine Fq rfl (.tmp 5) (.tmp 6) 117 rfl Tryz.Zj U w (fM (jm (Φ w)) 0 0) 0 [] rfl m (jm p) l.length c (nP l) rfl (Rd.below n e) (Ata l) (Ω k.out) U Θ ?_;intro y w' s r v);go_ret;exact⟨_,rfl,by simpa using s,e.trans r⟩
end
section
open Go.RowKit
def Ao5{w:jT}{pI n k c:Nat}{A:Option Addr}{e:TypeId}{xs:List ku}(h:w.ownsRow pI e k (fM A n c) n xs):∀d,A=jm d->pI<=d.block/\d.block<w:=λd a=>by
 rcases h.2 with⟨b,_⟩|⟨g,l,m,b,f,i,_⟩
 ·simp only[Value.slice.injEq]at b;rw[b.1]at a;cases a
 ·simp only[Value.slice.injEq]at b;rw[b.1]at a;injection a with a
  rw[<-a];exact⟨f,(AL.1 i).1⟩
def YB{w:jT}{pI n k:Nat}{v:ku}{e:TypeId}{xs:List ku}(h:w.ownsRow pI e k v n xs):∀g,v.ownBlock=jm g->pI<=g/\g<w:=λg a=>by
 rcases h.2 with⟨b,_⟩|⟨l,f,i,b,c,d,_⟩
 ·rw[b]at a;cases a
 ·rw[b]at a;injection a with a
  rw[<-a];exact⟨c,(AL.1 d).1⟩
def Rd.kept{w w':jT}{A:Option Addr}{n:Nat}{xs:List ku}{r:Option Nat}(h:Rd w A n xs)(k:Kept w w' r)(l:∀a,A=jm a->r≠jm a.block):Rd w' A n xs:=by
 refine⟨h.1,λi=>?_⟩;obtain⟨b,o,c,d,f⟩:=h.2 i;exact⟨b,o,c,Bc d k.1,λm g=>(World.cell?_of_block (w:=w) (k.2 b d (λe=>l _ c e.symm))).trans (f m g)⟩
def Akn{l:List Int}(h:JE l=jO){i:Nat}{a b:Int}(f:l[i]?=jm a)(g:l[i+1]?=jm b):a≠b:=by
 obtain⟨k,c⟩:=Cf.1 f;obtain⟨e,d⟩:=Cf.1 g;have:=oz h i e;rwa [c,d]at this
def vT{w:jT}{A:Option Addr}{l:List (List nC×ni)}(h:Rd w A (l.length*2) ((l.map itV).flatten))(k:Nat)(m:k<l.length):∃b c,A=jm (Δ b c)/\b<w/\w.cell? (Δ b (c+k*2))=jm (ig ⟨l[k].1.toArray⟩)/\w.cell? (Δ b (c+k*2+1))=jm (gz iV (l[k].2.toNat:Int)):=by
 obtain⟨b,c,e,f,g⟩:=h.2 O;have d:∀a,a<2->w.cell? (Δ b (c+k*2+a))=(itV l[k])[a]?:=λa i=>by
  rw[JD,g (k*2+a) O];exact flat_get itV 2 (λ_=>rfl) l k a m i
 exact⟨b,c,e,f,d 0 U,d 1 U⟩
section
variable{w w':jT}{x d p L:Nat}{s:St}{F:Nat->Prop}
def Ako(s:St)(w:jT)(e:Ending)(w':jT):Prop:=
 η w w'/\match WW s with
  |none=>e=iO (iJ #[fM jw 0 0,gz iU 5])
  |some a=>∃v,e=iO (iJ #[v,gz iU 0])/\w'.ownsRow w 3 1 v a.length (nP a)
def Ae2(h:Ix w x d p L s F){o:List (List nC×ni)}{g:List Int}(a0:Em s=jm (o,g))(aM:∀k e,k<=o.length->IA s (o.take k) (FH g)=jm e->e.length<=100000):
 Calls prog 47 #[AB d,AB p,AB x] w (Ako s w):=by
 have b6:WW s=match IA s o (FH g)with|none=>jw|some l=>if JE (FH l)=jO then jm (FH l)else none:=by unfold WW;rw[a0];rfl
 have cw:=h.sys.pos.1;have t0:(((L*64:Nat):Int)==0)=false:=ζ O;have a1:=h.sys.size;generalize L*64=db at a1 t0;obtain⟨bq,bg,bt,bo,aq,ar⟩:=lN a1 (bf h) h a0 aM b6;clear a1 h a0 aM b6 cw;go_in;go_wp2_with(first|(refine bq.out.ro ?_;clear bq)|(refine bg.mono ?_;rintro n df⟨aE,b2⟩;rw[bo.out]at b2;obtain⟨dc,rfl,bY,cF⟩:=b2;obtain⟨cW,cs,rfl,cy,aW⟩:=C9 bY;rw[show(Aus g).map (Value.int iU)=nP (FH g)from rfl]at aW;obtain⟨ck,bj,a8⟩:=l9 aE aW (VI (bt.below aE));clear bg bY aE aW cy)|(refine a8.mono ?_;rintro n A⟨aG,b3⟩;rw[bo.out]at b3;obtain⟨v2,rfl,b0,cG⟩:=b3;obtain⟨cX,cY,rfl,cz,b4⟩:=C9 b0;have T:=Ac (τ ck.out aG);have cn:=Ac b4;have ao:=Rd.below bj aG;have be:Hid ((FH g).length<=100000):=Ac (aq 0 _ (Bd _) rfl);rw[show g.length=(FH g).length from(VN g).symm]at ao;rw[show g.length=(FH g).length from(VN g).symm];have bE:=Ac (Ao4 (c:=cs) (FH g) ao be);clear a8 b0 aG b4 cz ao bj)|(refine bE.mono ?_;rintro n dg⟨dd,rfl,b1,bQ⟩;have bd:=Ac bQ;have bN:=Ac b1;clear bE bQ b1));go_loopw [11,50](λQ i wr=>∃(k:Nat)(e:List Int),k<=o.length/\i=gz iU (k:Nat)/\IA s (o.take k) (FH g)=jm e/\e.length<=100000/\wr.ownsRow A 3 1 Q e.length (nP e)/\η A wr)(λ_ i _=>o.length-(intOf i).toNat)
 case atStart=>exact⟨0,FH g,Bd _,rfl,rfl,be,bN,bd⟩
 case round=>
  obtain⟨k,e,c3,rfl,bO,cx,M,I⟩:=hrel;obtain⟨HOr,y,S⟩:=l9 M I bO;clear M I bN bd bO;by_cases z:k<o.length
  ·obtain⟨b,cf,rfl,bV,cg,P⟩:=vT (Rd.below cn y) k z;have c7:=XH z;have c5:=XI k O;have u:=Ac (Ace z S);have cl:=Ac (λe=>aq (k+1) e z);obtain⟨⟨cL,a6⟩,bW⟩:∃cK,cK=o[k]:=⟨_,rfl⟩;rw[<-bW]at cg P u;simp only at cg P u;obtain⟨dh,b9,aI,-⟩:=E5 wr 157 [ig ⟨cL.toArray⟩,a6];have C:=Ac (τ y.out aI);have Y:=Ac (Eu HOr aI);have ba:=τ T.out C.out;have az:=Ac (VC (bt.below ba).sys a6);have cN:=Ac b9;clear bW b9 aI ba HOr y;go_wp2_with fail;rw[<-cN.out];refine az.mono ?_;rintro n cP⟨J,ac⟩;cases aa:IU s a6 with
   |none=>
    rw[aa]at ac;have av:Hid (WW s=jw):=Ac (by
     have r:=u.out;rw[aa]at r;rw[ar.out,Acf z r])
    have X:=Ac (τ T.out (τ C.out J));subst ac;clear az J Y C u;go_wp2;go_ret2;refine⟨X,?_⟩;rw[av.out];rfl
   |some f=>
    rw[aa]at ac u;obtain⟨a9,de,rfl,aD⟩:=ac;have bh:Hid ((e++f.map (·.off)).length<=100000):=Ac (cl _ u);clear aa;have aM:=a9.few;have bi:=YB Y;obtain⟨an,cZ,rfl,cA,ch⟩:=dJ aD;have H:∀m,an=jm m->m.block<cP/\u11.ownBlock≠jm m.block:=λm q=>by
     obtain⟨r,G⟩:=Ao5 aD m q;exact⟨G,λn=>Ω ((bi _ n).2)⟩
    obtain⟨bc,bk,X,bM⟩:=lL H ch (τ C.out J) (Eu Y J);clear az aD J ch H bi a9 Y C cA;go_wp2_with fail;go_loopw [11,67](λQ i wr=>∃a:Nat,a<=f.length/\i=gz iU (a:Nat)/\wr.ownsRow A 3 1 Q (e++(f.take a).map (·.off)).length (nP (e++(f.take a).map (·.off)))/\η A wr/\LkR wr an f/\∀m,an=jm m->m.block<wr/\Q.ownBlock≠jm m.block)(λ_ i _=>f.length-(intOf i).toNat)
    case atStart=>exact⟨0,Bd _,rfl,by simpa using bM.out,X.out,bk.out,bc.out⟩
    case round=>
     obtain⟨a,c1,rfl,M,I,b5,H⟩:=hrel;obtain⟨N,v,E,a7⟩:=lL M I b5 H;clear M I b5 H bc bM X bk;by_cases t:a<f.length
     ·obtain⟨cJ,a3,a4⟩:=XH t;have cI:=XI a O;obtain⟨b,cf,rfl,bV,cT,al,am,cU,cV⟩:=E.at a t;have br:Hid (e++(f.take (a+1)).map (·.off)=e++(f.take a).map (·.off)++[f[a].off]):=Ac (by
       rw[List.take_succ_eq_append_getElem t,CJ,List.append_assoc];rfl)
      have c4:(e++(f.take a).map (·.off)).length<=100000:=by
       have:=bh.out;simp only[AO,List.length_map,List.length_take]at this⊢;omega
      generalize f[a]=cM at*;obtain⟨a5,cd,cc,cb,ce⟩:=cM;simp only at cT al am cU cV br;generalize(e++(f.take a).map (·.off))=bL at*;obtain⟨cR,a2,K,-⟩:=E5 wr 197 [a5,cd,cc,cb,ce];obtain⟨ap,V,bl⟩:=l9 (τ v.out K) (Eu N K) (E.below K);have aR:=(a7 _ rfl).2;simp only at aR;have bb:Hid (b<cR):=Ac (Ω K.size);have ah:=Ac aR;rw[a2]at V ap;have cp:=Ac a2;clear a2 K aR N v E a7;go_wp2_with(at_builtin;refine BU rfl (.tmp 71) (.tmp 74) 117 rfl Tryz.Zj (wr.alloc (ji #[a5,cd,cc,cb,ce] 197)) A u11 bL.length (nP bL) [a5] rfl (by exact V) rfl _ 1 rfl Θ rfl U (by intro Q b8;simp at b8;subst b8;rfl) O U (by exact ap.size) ?_;intro cv c0 cS bB bA Z aw);have cr:=Ac bB;have cq:=Ac (ap.trans bA);rw[<-cp.out]at Z aw;have co:=Ac (Rd.kept bl Z (λm q=>by injection q with q;rw[<-q];exact ah));have cj:Hid (b<cS/\jm cv≠jm b):=Ac (by
       refine⟨Ψ Z.1 bb.out,λn=>?_⟩;injection n with n
       rcases aw with h|h
       ·exact ah (by rw[h,n])
       ·have:=bb.out;omega)
      clear bB bA Z aw bl;go_wp2;exact⟨⟨a+1,O,by go_num,by rw[br.out,AO,As9];exact cr,cq,co,λm q=>by injection q with q;subst q;exact cj⟩,mz⟩
     ·obtain⟨a3,a4⟩:=wO t;have cD:a=f.length:=O;subst cD;have V:Hid (wr.ownsRow A 3 1 u11 (e++f.map (·.off)).length (nP (e++f.map (·.off)))):=Ac (by have:=N.out;rwa [I7]at this);clear N;go_wp2;exact⟨⟨k+1,_,O,by go_num,u,bh,V,v⟩,mz⟩
  ·obtain⟨c8,c9⟩:=wO z;have cE:k=o.length:=O;subst cE;obtain⟨l,bX⟩:=ε e;rw[<-bX]at HOr cx S;have bm:Hid (WW s=if JE (FH l)=jO then jm (FH l)else jw):=Ac (by
    have r:=S.out;rw[I7]at r;rw[ar.out,r])
   have bp:=Ac (Ao3 l HOr y.size O);clear S bX ar aq;go_wp2_with(refine bp.out.mono ?_;rintro n cQ⟨rfl,ab,bR⟩;obtain⟨ci,ct,rfl,cB,ca⟩:=C9 ab;obtain⟨N,v,E,W,cu⟩:=lM ab (τ T.out (y.trans bR)) ca (VN l) (qH ab T.size);clear bp ab bR ca HOr y cB);go_loopw [18](λi wr=>∃a:Nat,1<=a/\(a<=l.length\/a=1)/\i=gz iU (a:Nat)/\η cQ wr/\sO (FH l) a)(λi _=>l.length-(intOf i).toNat)
   case atStart=>exact⟨1,Ae _,.inr rfl,rfl,mZ,λi r G=>absurd G O⟩
   case round=>
    obtain⟨a,cC,c2,rfl,bS,b7⟩:=hrel;have D:=Ac bS;have au:=Ac b7;clear bS b7;by_cases t:a<l.length
    ·obtain⟨cJ,a3,a4⟩:=XH t;have cI:=XI a O;have c6:IntKind.i64.wrap ((a:Int) -1)=((a-1:Nat):Int):=by rw[IntWalk.i64_in _ O];omega
     obtain⟨b,cf,rfl,bV,aL⟩:=(Rd.below E D).2 O;have al:=aL a O;have am:=aL (a-1) O;obtain⟨B,ad⟩:∃B,(FH l)[a]?=jm B:=⟨_,Ag (by rw[W.out];exact t)⟩;obtain⟨R,ae⟩:∃R,(FH l)[a-1]?=jm R:=⟨_,Ag (by rw[W.out];omega)⟩;rw[nP,CP,ad]at al;rw[nP,CP,ae]at am;simp only[Option.map_some]at al am;have cF:a-1<l.length:=O;have cG:=dT (((a-1:Nat):Int)<(l.length:Int));have bw:Hid ((FH l)[a-1+1]?=jm B):=Ac (by rw[show a-1+1=a by omega];exact ad);have bx:=Ac ae;have bs:Hid (B≠R->sO (FH l) (a+1)):=Ac (xC cC au ad ae);clear aL ad ae;generalize a-1=da at*;cases P:(B==R)with
     |true=>
      have av:Hid (JE (FH l)=jS):=Ac (by
       cases cH:JE (FH l)with
       |false=>rfl
       |true=>exact absurd (beq_iff_eq.1 P).symm (Akn cH bx bw))
      clear bs bw bx au;go_wp2_with fail;go_quiet(fail);go_wp2;go_ret2;refine⟨τ v.out (D.trans ((Dr.one _ _).below _)),?_⟩;rw[bm.out,av.out,lg Bool.false_ne_true];rfl
     |false=>
      have ah:Hid (B≠R):=Ac (beq_eq_false_iff_ne.1 P);go_wp2_with fail;go_quiet(fail);go_wp2;exact⟨⟨a+1,O,.inl O,by go_num,D.trans ((Dr.one _ _).below _),bs ah⟩,mz⟩
    ·obtain⟨a3,a4⟩:=wO t;have cm:Hid (JE (FH l)=jO):=Ac (Af4 (λi r G=>au i r (Ω W.out) G));go_wp2;go_ret2;refine⟨τ v.out D.out,?_⟩;rw[bm.out,cm.out,kX rfl];have:wr.ownsRow w 3 1 (fM ci l.length ct) (FH l).length (nP (FH l)):=by rw[W.out];exact Eu cu D
     exact⟨_,rfl,this⟩
def qP(h:Ix w x d p L s F){i:List (List nC×ni)}{k:List Int}(g:Em s=jm (i,k)){l:List Int}(e:IA s i (FH k)=jm l)(B:l.length<=100000)(r:JE (FH l)=jO):
 Calls prog 47 #[AB d,AB p,AB x] w λb w'=>∃v,b=iO (iJ #[v,gz iU 0])/\w'.ownsRow w 3 1 v l.length (nP (FH l))/\η w w':=by
 refine(Ae2 h g (λy A t a=>?_)).mono ?_
 ·obtain⟨z,n,o⟩:=fG e y t;rw[n]at a;injection a with a
  have:=ou o;rw[a]at this;omega
 ·rintro b w'⟨q,f⟩;have u:WW s=jm (FH l):=by unfold WW;rw[g];simp only[e,r,if_true]
  rw[u]at f;obtain⟨v,m,c⟩:=f;rw[VN]at c;exact⟨v,m,c,q⟩
end
def Ao7(s:St)(oV:Nat)(b:List (List nC×ni)):Prop:=∀c(h:c<b.length),∃a t,IU s b[c].2=jm (a::t)/\a.rc.nK.toNat<=oV
section
variable{w w':jT}{x d p L:Nat}{s:St}{F:Nat->Prop}
def Ao8(h:Ix w x d p L s F){c:List (List nC×ni)}{Z:List Int}(V:Em s=jm (c,Z))(oV:ni)(R:Ao7 s oV.toNat c):
 Calls prog 49 #[AB d,AB p,AB x,oV] w λk w'=>k=iO (gz iU 0)/\η w w':=by
 obtain⟨A,H,G,C⟩:=lL (VI h) h V R;go_in;go_wp2_with fail;refine A.mono ?_;rintro k ac⟨N,q⟩;rw[G.out]at q;obtain⟨v2,rfl,T,aM⟩:=q;obtain⟨ap,az,rfl,aG,U⟩:=C9 T;have m:=Ac N;have E:=Ac U;go_wp2_with fail;go_loopw [26](λe wr=>∃a:Nat,a<=c.length/\e=gz iU (a:Nat)/\η ac wr)(λe _=>c.length-(intOf e).toNat)
 case atStart=>exact⟨0,Bd _,rfl,mZ⟩
 case round=>
  obtain⟨a,aL,rfl,M⟩:=hrel;have g:=Ac M;by_cases f:a<c.length
  ·obtain⟨b,a4,rfl,aE,u,v⟩:=vT (Rd.below E g) a f;have a1:=XH f;have a0:=XI a O;obtain⟨i,t,l,aW⟩:=C a f;obtain⟨⟨Y,y⟩,S⟩:∃X,X=c[a]:=⟨_,rfl⟩;rw[<-S]at u v l;simp only at u v l;have D:=Ac l;obtain⟨a6,W,P,-⟩:=E5 wr 157 [ig ⟨Y.toArray⟩,y];have n:=Ac (τ g.out P);have B:=τ m.out n.out;have J:=Ac (VC (H.below B).sys y);have ab:=Ac W;go_wp2_with fail;rw[<-ab.out];refine J.mono ?_;rintro k ad⟨Q,r⟩;rw[D.out]at r;obtain⟨av,a5,rfl,K⟩:=r;obtain⟨ar,aD,rfl,aI,ae⟩:=dJ K;have I:=Ac (τ n.out Q);obtain⟨aw,aq,rfl,au,al,z,am,an,ao⟩:=ae.at 0 Θ;obtain⟨aa,o⟩:=ε ((i::t).length);have aR:0<aa:=by rw[o];simp
   rw[<-o];rw[Nat.zero_mul,Nat.add_zero]at al z am an ao;simp only[List.getElem_cons_zero]at z;have t2:=dF (oV.toNat<i.rc.nK.toNat);generalize i.rc.nK=st at*;go_wp2_with fail;go_loopw [15](λe ah=>e=gz iU 0/\ah=ad)(λ_ _=>0)
   case atStart=>exact⟨rfl,rfl⟩
   case round=>
    obtain⟨rfl,rfl⟩:=hrel;go_wp2;exact⟨⟨a+1,O,by go_num,I⟩,mz⟩
  ·obtain⟨a2,a3⟩:=wO f;go_wp2;go_ret;exact⟨rfl,τ m.out g.out⟩
def Akp(h:Ix w x d p L s F){i:List (List nC×ni)}{k:List Int}(E:Em s=jm (i,k)){l:List Int}(A:IA s i (FH k)=jm l)(z:l.length<=100000)(y:JE (FH l)=jO)(t:sJ s=[]):
 Calls prog 50 #[AB d,AB p,AB x] w λa w'=>a=iO (gz iU 0)/\η w w':=by
 obtain⟨q,r,m⟩:=l9 (qP h E A z y) h t;go_in;go_wp2_with fail;refine q.mono ?_;rintro a c⟨v2,rfl,B,e⟩;obtain⟨J,M,rfl,R,S⟩:=C9 B;have n:=Ac e;have b:=Ac (show Calls prog 96 #[AB p] c λa w'=>∃v,a=iO v/\w'.ownsRow c 3 1 v (sJ s).length (nvs (sJ s))/\η c w' from by
  obtain⟨U,Q,T,P,O,own,C,-⟩:=(r.below e).sys;exact Ano C.at)
 rw[m.out]at b;simp only[CV]at b;go_wp2_with(refine b.out.mono ?_;rintro a H⟨V,rfl,g,f⟩;obtain⟨K,N,rfl,u,D⟩:=C9 g;have o:=Ac (τ n.out f);clear b g f D u);go_loopw [26](λG I=>G=gz iU 0/\I=H)(λ_ _=>0)
 case atStart=>exact⟨rfl,rfl⟩
 case round=>
  obtain⟨rfl,rfl⟩:=hrel;go_wp2;go_ret;exact⟨rfl,o⟩
def Akq{ws:Nat->ni}{own Z:Nat->Prop}{G:St->Prop}{sh:Sh}(bc:0<L)(bb:L<=1024)(l:shapeOf L=jm sh)(h:Dev w d L ws M0 (λ_=>0) own)(W:Tabs w)(a4:¬own 0)(a5:¬own 1)
 (a6:wordsAt ws 0 8=wordsOf sh)(be:∀am,am<sh.CE->Hw (ws (sh.table/8+am)).toNat=jO)(ad:s={sh:=sh,ws:=ws,tk:=wordsAt ws (sh.table/8) sh.CE,hd:=BJ sh.CE 0}){r:List (List nC×ni)×List Int}(bi:Em s=jm r)(bM:(ws 8).toNat<=60000)
 (bd:∀(e:jT)(p x:Nat)(F:Nat->Prop),Ix e x d p L s F->Calls prog 47 #[AB d,AB p,AB x] e λc w'=>(∃ap bl a3,c=iO (iJ #[fM ap bl a3,gz iU 0]))/\η e w')
 (a8:∀(e:jT)(p x:Nat)(F:Nat->Prop),Ix e x d p L s F->w.heap.size+1<=e->(∀b,F b->own b\/w+1<=b)->Calls prog 49 #[AB d,AB p,AB x,gz iV ((ws 8).toNat:Int)] e λc f=>c=iO (gz iU 0)/\
  ∃bm m,Ix f x d p L bm m/\AQ F m e f/\Touch (λb=>Z b\/w+1<=b) e f/\Calls prog 50 #[AB d,AB p,AB x] f λc y=>c=iO (gz iU 0)/\
   ∃s2 F2,Ix y x d p L s2 F2/\AQ m F2 f y/\Touch (λb=>Z b\/w+1<=b) f y/\G s2):
 Calls prog 24 #[AB d] w λc w'=>∃p x F an,c=iO (iJ #[iK #[AB p,AB x,gz iV ((ws 8).toNat:Int)],gz iU 0])/\
  Ix w' x d p L an F/\G an/\Touch Z w w'/\(∀b,F b->own b\/w<=b)/\w<=x:=by
 have P:=Ac W.lt;obtain⟨bp,al,A,a9⟩:=E5 w 81 [iL jw,iL jw,gz iV 0];have az:=Ac a9;have t:=Ac (Air bc bb l U (h.below A) (W.below A) a4 a5 a6 be);rw[<-ad]at t;have au:=Ac A;have aW:=Ac al;have bL:bp.heap.size=w+1:=by rw[al];simp
 have R:Hid (∀b,own b->b<w):=Ac (λb a=>h.lt b a);have a7:s.ws 8=ws 8:=by rw[ad]
 obtain⟨ar,aL,N,Q⟩:=lL a7 bi bd a8;have t6:=dF ((60000:Int)<((ws 8).toNat:Int));have aE:Hid (8<8*L):=Ac (Ξ ((J4 l).fits) ((J4 l).Qo) ((J4 l).CE));go_in;go_wp2_with(first|(rw[<-aW.out];refine t.mono ?_;rintro c bQ⟨p,F,rfl,ae,X,T⟩;have J:=Ac X;have K:=Ac (Aez ae);have o:Hid (∀b,F b->own b\/w+1<=b):=Ac (λb a=>(T b a).imp id (λh=>O));clear t ae X T)|(refine K.mono ?_;rintro c bR⟨Y,ac⟩;rw[aL.out]at ac;obtain⟨x,rfl,C,E⟩:=ac;obtain⟨av,a0,a1,M⟩:=lL (τ J.out Y) C E (N _ _ _ _ C);clear K Y C E N)|(refine M.mono ?_;rintro c bS⟨⟨bt,bN,bx,rfl⟩,B⟩;have k:=Ac (τ av.out B);have D:=a0.below B;have q:=Ac (D.sys.load 8 aE);rw[ar.out,show((8*8:Nat):Int)=64 from rfl]at q;have I:=Ac (Q _ _ _ _ D (Ω k.size) o);clear M B D Q)|(refine q.ro ?_;clear q)|(refine I.mono ?_;rintro c bV⟨rfl,bO,bw,-,ab,ah,aa⟩;obtain⟨aG,aM,aq⟩:=l9 ab ah aa;clear I ab ah aa));refine aq.mono ?_;rintro c i⟨rfl,bo,n,bk,bh,bj,bg⟩;obtain⟨u,aw,ao⟩:=l9 bk bg (aG.trans bh);have aI:Hid (¬F w):=Ac (λa=>(o _ a).elim (λh=>Ω (R _ h)) (λh=>O));have aR:Hid (Touch Z w i):=Ac (((mD (τ au.out k.out)).trans aM (λb a=>a.imp id (λh=>O))).trans bj (λb a=>a.imp id (λh=>O)));have g:Cm i w 81 [iL jw,iL jw,gz iV 0]:=by
  have S:=az.out.ξ k;exact(ao.touch.block _ S.lt aI).trans S
 have f0:=g.frozen 0;have f1:=g.frozen 1;have f2:=g.frozen 2;obtain⟨bA,bB,bE⟩:=g.p3;have aD:=Ac g;go_wp2_with fail;obtain⟨e,z⟩:=ε (((i.setCell (Δ w.heap.size 0) (AB p)).setCell (Δ w.heap.size 1) (AB x)).setCell (Δ w.heap.size 2) (gz iV ((ws 8).toNat:Int)));rw[<-z];have H:Touch (·=w) i e:=by rw[z];exact(((Touch.refl (·=w) i).setCell (p:=Δ w 0) (.inl rfl) _).setCell (p:=Δ w 1) (.inl rfl) _).setCell (p:=Δ w 2) (.inl rfl) _
 have a2:Cm e w 81 [AB p,AB x,gz iV ((ws 8).toNat:Int)]:=by rw[z];exact((aD.Be 0 _).Be 1 _).Be 2 _
 obtain⟨bq,br,bs⟩:=a2.p3;refine bodyPost_ret (v:=iJ #[iK #[AB p,AB x,gz iV ((ws 8).toNat:Int)],gz iU 0]) (by simp[results,results24,go_sem,bq,br,bs]) rfl ?_;have V:∀b,n b->own b\/w+1<=b:=λb a=>(ao.own b a).elim (o b) (λh=>.inr (Ω k.size))
 have ba:∀b,n b->¬b=w:=λb a c=>(V b a).elim (λh=>Ω (R b h)) (λh=>O)
 have E:w<x:=by
  have:=a1.out;have:=J.size;omega
 exact⟨p,x,n,bo,rfl,⟨u.sys.keep H ba (λc=>Ω P.out) (λc=>Ω P.out),u.box.touch H O,u.out.out⟩,aw,aR.trans H (λb a=>.inr (Nat.le_of_eq a.symm)),λb a=>(V b a).imp id (λh=>O),O⟩
def Ao9{ws:Nat->ni}{own:Nat->Prop}{sh:Sh}(B:0<L)(A:L<=1024)(J:shapeOf L=jm sh)(h:Dev w d L ws M0 (λ_=>0) own)(C:Tabs w)(u:¬own 0)(y:¬own 1)
 (z:wordsAt ws 0 8=wordsOf sh)(D:∀n,n<sh.CE->Hw (ws (sh.table/8+n)).toNat=jO)(M:s={sh:=sh,ws:=ws,tk:=wordsAt ws (sh.table/8) sh.CE,hd:=BJ sh.CE 0})
 {m:List (List nC×ni)}{o:List Int}(k:Em s=jm (m,o)){l:List Int}(i:IA s m (FH o)=jm l)(I:l.length<=100000)(H:JE (FH l)=jO)(K:(ws 8).toNat<=60000)(E:Ao7 s (ws 8).toNat m)
 (hF:∀(f:jT)(p x:Nat)(F:Nat->Prop),Ix f x d p L s F->Calls prog 50 #[AB d,AB p,AB x] f λc w'=>c=iO (gz iU 0)/\η f w'):
 Calls prog 24 #[AB d] w λc w'=>∃p x F,c=iO (iJ #[iK #[AB p,AB x,gz iV ((ws 8).toNat:Int)],gz iU 0])/\
  Ix w' x d p L s F/\η w w'/\(∀b,F b->own b\/w<=b)/\w<=x:=by
 refine(Akq (Z:=λ_=>False) (G:=λq=>q=s) B A J h C u y z D M k K (λf p x F a=>(qP a k i I H).mono ?_) (λf p x F a _ _=>(Ao8 a k (ws 8) E).mono ?_)).mono ?_
 ·rintro c w'⟨v,rfl,i,e⟩;obtain⟨r,t,rfl,_,_⟩:=C9 i;exact⟨⟨r,_,t,rfl⟩,e⟩
 ·rintro c P⟨rfl,e⟩;refine⟨rfl,s,F,a.below e,mW e,mD e,(hF _ _ _ _ (a.below e)).mono ?_⟩;rintro c Q⟨rfl,g⟩;exact⟨rfl,s,F,(a.below e).below g,mW g,mD g,rfl⟩
 ·rintro c w'⟨p,x,F,q,rfl,a,rfl,N,hF,O⟩;exact⟨p,x,F,rfl,a,N.below (Ae _) (λ_ h=>h.elim),hF,O⟩
end
def spV(x:Sp):Value:=iK #[x.what,x.id,x.key,x.text]
def YP(t:nG)(ps:ku)(n:Int)(d:Bool)(e:Int):Value:=iK #[t,ps,n,d,e]
def VO(B k:Nat):Prop:=B<=k/\k<B+3
def ZG(w:jT)(R:jT->jT->Prop)(w':jT):Prop:=∃a b,η w a/\a.heap.size=w+3/\R a b/\Touch (VO w) b w'
def Akr(w:jT)(i:Int)(id:Nat)(key g:nG)(a:jT)(b:a=((w.alloc (ji #[i,id,key,g] 46)).alloc (ji #[ig ⟨#[]⟩,fM jw 0 0,gz iU 0,jS,gz iU 0] 40)).alloc (ji #[ig ⟨#[]⟩,fM jw 0 0,gz iU 0,jS,gz iU 0] 40)):
 Cm a w 46 [i,id,key,g]/\Cm a (w+1) 40 [ig ⟨#[]⟩,fM jw 0 0,gz iU 0,jS,gz iU 0]/\
  Cm a (w+2) 40 [ig ⟨#[]⟩,fM jw 0 0,gz iU 0,jS,gz iU 0]/\η w a/\a.heap.size=w+3:=by
 obtain⟨c,e,-,p⟩:=E5 w 46 [i,id,key,g];obtain⟨d,m,n,k⟩:=E5 c 40 [ig ⟨#[]⟩,fM jw 0 0,gz iU 0,jS,gz iU 0];have o:c.heap.size=w+1:=by rw[e];simp
 have s2:d.heap.size=w+2:=by rw[m];simp[o]
 rw[<-e,<-m]at b;have l:Cm a d 40 [ig ⟨#[]⟩,fM jw 0 0,gz iU 0,jS,gz iU 0]:=b▸heap_alloc_new _ _;have f:η d a:=b▸ mZ.alloc (Ae _) _;have q:η w c:=e▸ mZ.alloc (Ae _) _;rw[o]at k;rw[s2]at l;refine⟨(p.ξ n).below f (by rw[s2];omega),k.below f (by rw[s2];omega),l,τ q (τ n f),?_⟩;rw[b];simp[s2]
def X8(w:jT)(c:Int)(id:Nat)(key b:nG):∃a,a=((w.alloc (ji #[c,id,key,b] 46)).alloc (ji #[ig ⟨#[]⟩,fM jw 0 0,gz iU 0,jS,gz iU 0] 40)).alloc (ji #[ig ⟨#[]⟩,fM jw 0 0,gz iU 0,jS,gz iU 0] 40)/\
 Cm a w 46 [c,id,key,b]/\Cm a (w+1) 40 [ig ⟨#[]⟩,fM jw 0 0,gz iU 0,jS,gz iU 0]/\
  Cm a (w+2) 40 [ig ⟨#[]⟩,fM jw 0 0,gz iU 0,jS,gz iU 0]/\η w a/\a.heap.size=w+3:=⟨_,rfl,Akr w c id key b _ rfl⟩
def Cm.q5{w:jT}{g:Nat}{e:TypeId}{a b c d f:ku}(h:Cm w g e [a,b,c,d,f]):(w.cell? (Φ g)=jm a/\w.cell? (Δ g 1)=jm b/\w.cell? (Δ g 2)=jm c/\w.cell? (Δ g 3)=jm d/\w.cell? (Δ g 4)=jm f)/\
 w.frozen? (Φ g)=jS/\w.frozen? (Δ g 1)=jS/\w.frozen? (Δ g 2)=jS/\w.frozen? (Δ g 3)=jS/\w.frozen? (Δ g 4)=false:=⟨h.p5,h.frozen 0,h.frozen 1,h.frozen 2,h.frozen 3,h.frozen 4⟩
def DoF(f:Nat):Prop:=f=17\/f=17
def Ahb:True:=trivial
structure Rz where
 n:Int
 er:Int
 tx:nG
 dn:Bool
 P:Option Addr
 m:Nat
 c:Nat
inductive DoK(g id:Nat)(key text:nG):Int->Nat->Array ku->(Rz->ku)->(Rz->ku)->Prop
 |kb:DoK g id key text 0 26 #[AB g] (λr=>iJ #[r.n,r.er]) (λr=>YP ⟨#[]⟩ (fM jw 0 0) r.n jS r.er)
 |kp:DoK g id key text 1 27 #[AB g,id,key,text] (λr=>gz iU r.er) (λr=>YP ⟨#[]⟩ (fM jw 0 0) 0 jS r.er)
 |kd:DoK g id key text 2 28 #[AB g,id,key] (λr=>gz iU r.er) (λr=>YP ⟨#[]⟩ (fM jw 0 0) 0 jS r.er)
 |kt:DoK g id key text 3 29 #[AB g,id,key] (λr=>iJ #[r.tx,r.er]) (λr=>YP r.tx (fM jw 0 0) 0 jS r.er)
 |ks:DoK g id key text 4 30 #[AB g,id,key,text] (λr=>iJ #[fM r.P r.m r.c,r.er]) (λr=>YP ⟨#[]⟩ (fM r.P r.m r.c) 0 jS r.er)
 |kc:DoK g id key text 5 31 #[AB g,id] (λr=>gz iU r.er) (λr=>YP ⟨#[]⟩ (fM jw 0 0) 0 jS r.er)
 |kw:DoK g id key text 6 32 #[AB g] (λr=>iJ #[r.n,r.dn,r.er]) (λr=>YP ⟨#[]⟩ (fM jw 0 0) r.n r.dn r.er)
 |ka:DoK g id key text 7 33 #[AB g,id] (λr=>gz iU r.er) (λr=>YP ⟨#[]⟩ (fM jw 0 0) 0 jS r.er)
 |kv:DoK g id key text 8 34 #[AB g] (λr=>iJ #[r.n,r.er]) (λr=>YP ⟨#[]⟩ (fM jw 0 0) r.n jS r.er)
def Vt{m:Func}{k X:jT}{B:Nat}{q r s t u b c d e f v:ku}{o:Array ku}{l:Ending->jT->Prop}(z:m.results= #[.cell 4 40])(A:o[4]?=jm (AB (B+1)))(y:Cm k (B+1) 40 [q,r,s,t,u])(n:Touch (·=B+1+1) k X)(C:v=iK #[b,c,d,e,f])
 (h:∀a,Touch (VO B) k a->l (iO v) a):bodyPost prog m l .ret ⟨o,[]⟩ (((((X.setCell (Δ (B+1) 0) b).setCell (Δ (B+1) 1) c).setCell (Δ (B+1) 2) d).setCell (Δ (B+1) 3) e).setCell (Δ (B+1) 4) f):=by
 obtain⟨a,g⟩:=ε ((((((X.setCell (Δ (B+1) 0) b).setCell (Δ (B+1) 1) c).setCell (Δ (B+1) 2) d).setCell (Δ (B+1) 3) e).setCell (Δ (B+1) 4) f));have w:Cm a (B+1) 40 [b,c,d,e,f]:=by rw[g];exact(((((y.touch n O).Be 0 _).Be 1 _).Be 2 _).Be 3 _).Be 4 _
 have D:Touch (·=B+1) X a:=by rw[g];exact(((((Touch.refl (·=B+1) X).setCell (p:=Δ (B+1) 0) (.inl rfl) _).setCell (p:=Δ (B+1) 1) (.inl rfl) _).setCell (p:=Δ (B+1) 2) (.inl rfl) _).setCell (p:=Δ (B+1) 3) (.inl rfl) _).setCell (p:=Δ (B+1) 4) (.inl rfl) _
 rw[<-g];obtain⟨u0,u1,u2,u3,u4⟩:=w.p5;subst C;refine bodyPost_ret (v:=iK #[b,c,d,e,f]) (by simp[results,z,A,go_sem,u0,u1,u2,u3,u4]) rfl ?_;exact h a ((n.mono (λi x=>⟨O,O⟩)).trans (D.mono (λi x=>(⟨O,O⟩:VO B i))) (λi=>.inl))
def Ahc{f:Nat}(P:DoF f){g id:Nat}{key m:nG}{n:Int}{F:Nat}{args:Array ku}{r A:Rz->ku}(Q:DoK g id key m n F args r A){w:jT}{R:Rz->jT->jT->Prop}{G:Nat->Prop}(e:∀v,v<3->¬G (w+v))
 (u:∀a,η w a->w.heap.size+3=a->Calls prog F args a λc w'=>∃b,c=iO (r b)/\R b a w'/\Touch G a w'):
 Calls prog f #[AB g,iK #[n,id,key,m]] w λc w'=>∃b,c=iO (A b)/\ZG w (R b) w':=by
 obtain⟨a,t,o,p,q,i,k⟩:=X8 w n id key m;have C:=Ac t;have z:=Ac (u a i k.symm);obtain⟨X,Y,Z,aa⟩:=o.p4;obtain⟨x,y,K,E,H,I⟩:=lN p q i k (e 1 U) (e 2 U);clear t u i o p q e k;rcases P with rfl|rfl<;>cases Q
 all_goals(first|go_in|skip)
 all_goals(go_wp2_with(rw[<-C.out]))
 all_goals(go_wp2_with(refine z.out.mono ?_;rintro c W⟨⟨T,N,V,M,J,S,L⟩,rfl,s,l⟩;have d:=x.touch l H;obtain⟨⟨az,aD,aE,aG,aI⟩,ac,ad,ae,ah,al⟩:=(y.touch l I).q5;obtain⟨⟨ar,au,v2,av,aw⟩,am,an,ao,ap,aq⟩:=d.q5;have B:=Ac s;have D:=Ac d;clear s l d X Y Z aa;try simp only))
 all_goals(refine Vt (by first|exact results17|exact Ahb) rfl D ?_ rfl (λab O=>⟨⟨T,N,V,M,J,S,L⟩,rfl,a,W,K,E,B,O⟩))
 all_goals(repeat'(first|exact mP|exact .inl rfl|refine Touch.setCell ?_ ?_ _))
def Vu{f:Nat}(v:DoF f){g id:Nat}{key k:nG}{l:Int}{F:Nat}{args:Array ku}{d A:Rz->ku}(x:DoK g id key k l F args d A)(r:Rz){w:jT}{R:jT->jT->Prop}{G:Nat->Prop}(s:∀e,e<3->¬G (w+e))
 (t:∀a,η w a->w.heap.size+3=a->Calls prog F args a λc w'=>c=iO (d r)/\R a w'/\Touch G a w'):
 Calls prog f #[AB g,iK #[l,id,key,k]] w λc w'=>c=iO (A r)/\ZG w R w':=by
 refine(Ahc v x (R:=λi a w'=>i=r/\R a w') s (λa m b=>(t a m b).mono λc w' h=>⟨r,h.1,⟨rfl,h.2.1⟩,h.2.2⟩)).mono ?_;rintro c w'⟨i,u,a,y,n,o,⟨rfl,p⟩,q⟩;exact⟨u,a,y,n,o,p,q⟩
def A04{f:Nat}(q:DoF f)(g:Nat)(a:Int)(r:a<0\/8<a)(id:Nat)(key l:nG)(w:jT):
 Calls prog f #[AB g,iK #[a,id,key,l]] w λo w'=>o=iO (YP ⟨#[]⟩ (fM jw 0 0) 0 jS 13)/\η w w':=by
 obtain⟨t,i,c,b,d,k,s⟩:=X8 w a id key l;have m:=Ac i;have R:=c.p1;have t0:(a==0)=false:=ζ O;have t1:(a==1)=false:=ζ O;have t2:(a==2)=false:=ζ O;have t3:(a==3)=false:=ζ O;have t4:(a==4)=false:=ζ O;have t5:(a==5)=false:=ζ O;have t6:(a==6)=false:=ζ O;have t7:(a==7)=false:=ζ O;have t8:(a==8)=false:=ζ O;obtain⟨⟨L,M,N,P,Q⟩,x,y,z,A,B⟩:=d.q5;obtain⟨⟨H,I,v2,J,K⟩,C,D,E,F,G⟩:=b.q5;have n:=Ac b;have e:=Ac k;clear i k c b d s r;rcases q with rfl|rfl
 all_goals(first|go_in|skip)
 all_goals(go_wp2_with(rw[<-m.out]))
 all_goals(go_wp2)
 all_goals(refine Vt (by first|exact results17|exact Ahb) rfl n ?_ rfl (λu p=>⟨rfl,e.trans (p.below e.size (λv h=>h.1))⟩))
 all_goals(repeat'(first|exact mP|exact .inl rfl|refine Touch.setCell ?_ ?_ _))
structure Av where
 t:nG
 ps:ku
 n:Int
 d:Bool
 e:Int
def avC(x:Av):List Value:=[x.t,x.ps,x.n,x.d,x.e]
def PN(l:List Av):List Value:=(l.map avC).flatten
def Aax(l:List Av)(a:Av):PN (l++[a])=PN l++avC a:=by simp[PN]
def Tryz.Ae4:IK prog 31 40 (iK #[ig ⟨#[]⟩,fM jw 0 0,gz iU 0,jS,gz iU 0]) 5 64:=⟨underlying31,by kernel_rfl,rfl⟩
def lU(w:jT)(A:Option Addr)(l:List Sp):Prop:=Rd w A (l.length*4) (Pm l)
def lU.at{w:jT}{A:Option Addr}{l:List Sp}(h:lU w A l)(k:Nat)(m:k<l.length):∃b a,A=jm (Δ b a)/\b<w/\w.cell? (Δ b (a+k*4))=jm (gz iU (l[k].what:Int))/\w.cell? (Δ b (a+k*4+1))=jm (gz iU (l[k].id:Int))/\
 w.cell? (Δ b (a+k*4+2))=jm (ig l[k].key)/\w.cell? (Δ b (a+k*4+3))=jm (ig l[k].text):=by
 obtain⟨b,a,e,f,g⟩:=h.2 O;have d:∀c,c<4->w.cell? (Δ b (a+k*4+c))=(spC l[k])[c]?:=λc i=>by
  rw[JD,g (k*4+c) O];exact flat_get spC 4 (λ_=>rfl) l k c m i
 exact⟨b,a,e,f,d 0 U,d 1 U,d 2 U,d 3 U⟩
def Kept.touch{B:Nat}{w w':jT}{r:Option Nat}(h:Kept w w' r)(k:Below B w w'):Touch (λq=>r=jm q) w w':=⟨k.os,k.tape,k.output,h.1,λq c b=>h.2 q c (λa=>b a.symm)⟩
def QE(X:Nat->Prop)(q:Nat):Prop:=¬(X q\/q=0\/q=1)
def Frames(S:jT->(Nat->Prop)->Prop):Prop:=∀a b X X',S a X->Touch X a b->(∀q,X' q->X q\/(a<=q/\q<b))->S b X'
def Steps(b c:jT->(Nat->Prop)->Prop)(f:FuncId)(args:Array ku)(d:ku):Prop:=
 ∀a X,b a X->Calls prog f args a λe w'=>e=iO d/\c w' X/\Touch (QE X) a w'
def OT{c d:jT->(Nat->Prop)->Prop}(r:Frames c)(h1:Frames d){f:FuncId}{args:Array ku}{l m:ku}(x:Steps c d f args l){w:jT}{X:Nat->Prop}(B:c w X){F2:FuncId}{k:Array ku}
 (y:∀{R:jT->jT->Prop}{G:Nat->Prop},(∀i,i<3->¬G (w+i))->(∀a,η w a->w.heap.size+3=a->Calls prog f args a λb w'=>b=iO l/\R a w'/\Touch G a w')->
  Calls prog F2 k w λb w'=>b=iO m/\ZG w R w'):
 Calls prog F2 k w λb w'=>b=iO m/\d w' X/\Touch (QE X) w w':=by
 have u:∀a,η w a->w.heap.size+3=a->c a (λq=>X q\/VO w q):=λa g p=>r _ _ _ _ B (mD g) (λq A=>A.imp id (λh=>⟨h.1,Ω h.2⟩))
 refine(y (R:=λa e=>d e (λq=>X q\/VO w q)/\Touch (QE (λq=>X q\/VO w q)) a e) (G:=QE (λq=>X q\/VO w q)) (λi D h=>h (.inl (.inr ⟨O,O⟩))) (λa g p=>(x a _ (u a g p)).mono λb w'⟨z,h1,n⟩=>⟨z,⟨h1,n⟩,n⟩)).mono ?_;rintro b w'⟨rfl,a,e,v,E,⟨s,t⟩,o⟩;refine⟨rfl,h1 _ _ _ _ s (o.mono (λq=>.inr)) (λq h=>.inl (.inl h)),?_⟩;have t1:Touch (QE X) w e:=(mD (F:=QE X) v).trans t (λq h=>.inl (λC=>h (C.imp .inl id)));exact t1.trans o (λq h=>.inr h.1)
def Atb(g:Nat)(l:List Sp)(A:Option Addr)(c:Nat)(w:jT)(bq:l.length<=400)(h:lU w A l)
 (S:List Av->jT->(Nat->Prop)->Prop)(aR:∀a k L X X',S a k X->Touch X k L->(∀q,X' q->X q\/(k<=q/\q<L))->S a L X')
 (aW:∀(az:List Av)k X(bo:az.length<l.length),S az k X->Calls prog 17 #[AB g,spV l[az.length]] k λn w'=>∃(t:nG)(p:Option Addr)(u s:Nat)(o:Int)(d:Bool)(am:Int),n=iO (YP t (fM p u s) o d am)/\
  ∃m:Nat->Prop,(∀q,X q->m q)/\(∀q,m q->X q\/k<=q)/\S (az++[⟨t,fM p u s,o,d,am⟩]) w' m/\Touch (QE X) k w')
 {f:Nat->Prop}(E:S [] w f)(an:∀D,A=jm D->f D.block):
 Calls prog 7 #[AB g,fM A l.length c] w λn w'=>∃(v:ku)(X:Nat->Prop)(az:List Av),n=iO v/\az.length=l.length/\w'.ownsRow w 40 5 v az.length (PN az)/\S az w' X/\(∀q,f q->X q)/\(∀q,X q->f q\/w<=q)/\(∀q,v.ownBlock=jm q->X q)/\Touch (QE f) w w':=by
 obtain⟨bb,a7,a8,ae,be⟩:=lM h E an aR aW;have t1:=dF ((400:Int)<(l.length:Int));have t2:=dF (400<l.length);obtain⟨o,T⟩:=ε l.length;have ba:=Ac T;rw[<-T]at t1 t2 bq⊢;clear h E an aR aW T;go_in;go_wp2_with fail;go_loopw [5,15](λB Z wr=>∃(a:Nat)(X:Nat->Prop)(az:List Av),az.length=a/\a<=o/\Z=gz iU (a:Int)/\S az wr X/\((∀q,f q->X q)/\(∀q,X q->f q\/w<=q)/\Touch (QE f) w wr)/\wr.ownsRow w 40 5 B a (PN az)/\∀q,B.ownBlock=jm q->X q)(λ_ Z _=>o-(intOf Z).toNat)
 case atStart=>exact⟨0,f,[],rfl,Bd _,rfl,a7.out,⟨λ_ h=>h,λ_=>.inl,mP⟩,World.ownsRow_nil _ _ _ _,λq e=>nomatch e⟩
 case round=>
  obtain⟨a,X,az,aI,bo,rfl,ar,ap,aM,a0⟩:=hrel;have y:=Ac aI;obtain⟨a2,bt⟩:∃x,x=wr:=⟨_,rfl⟩;subst bt;obtain⟨ad,i,ac,C⟩:=lL ar ap aM a0;clear ar ap aM a0 aI;by_cases br:a<o
  ·have aL:a<l.length:=Ω ba.out;have aq:lU a2 A l:=by
    refine Rd.touch bb.out i.2.2 (λD bm h=>h (.inl (a8 D bm)))
   obtain⟨b,bN,rfl,bA,bO,bQ,bR,bS⟩:=aq.at a aL;have bL:=XH br;have bE:=XI a O;obtain⟨bW,a1,H,-⟩:=E5 a2 46 [gz iU (l[a].what:Int),gz iU (l[a].id:Int),ig l[a].key,ig l[a].text];have au:=ae _ _ _ _ _ ad.out (mD H) (λq=>.inl);have G:=be _ _ _ (by rw[y.out];exact aL) au;simp only[y.out]at G;have aa:=Ac H;have bj:=Ac (Eu ac.out H);unfold spV YP at G;have ab:=Ac G;have bw:=Ac a1;clear au G a1 H aq;generalize l[a].what=bX at*;generalize l[a].id=bY at*;generalize l[a].key=b0 at*;generalize l[a].text=b1 at*;go_wp2_with fail;rw[<-bw.out];refine ab.mono ?_;rintro n a3⟨Q,p,u,s,P,M,N,rfl,m,aE,aG,av,R⟩;have J:=Ac aE;have bi:=Ac aG;have a6:Hid (∀B∈avC ⟨Q,fM p u s,P,M,N⟩,B.oneCell'=jO):=Ac (by
    intro B Y;unfold avC at Y;simp at Y;rcases Y with rfl|rfl|rfl|rfl|rfl<;>rfl)
   have bV:=aa.size;have bB:=i.2.2.size;have a5:=Ie bj.out R (λq e h=>h (.inl (C q e)));have I:Touch (QE f) w a3:=(i.2.2.trans (mD (F:=QE f) aa.out) (λ_=>.inl)).trans R (λq h=>.inl (λE=>h (E.imp (i.1 q) id)));obtain⟨r,bg,bc⟩:=l9 a5 I av;have bs:=I.size;clear av R a5 I ab aE aG;go_wp2_with(at_builtin;refine BU rfl (.tmp 19) (.tmp 23) 31 rfl Tryz.Ae4 a3 w u5 a (PN az) (avC ⟨Q,fM p u s,P,M,N⟩) rfl (by exact r.out) rfl _ 1 rfl rfl rfl U (by exact a6.out) O U (by exact bs) ?_;intro z bl a4 K ah ao al);have W:=ao.touch ah;have V:=YB K;have aw:=ae _ _ _ _ (λq=>m q\/q=z) bc.out (W.mono (λq e=>J q (C q e))) (λq e=>e.elim .inl (λn=>by
    subst n;rcases al with h|h
    ·exact .inl (J _ (C _ h))
    ·exact .inr ⟨h,(V _ rfl).2⟩))
   have aD:Touch (QE f) w a4:=bg.trans W (λq e=>.inr (YB r.out q e).1);have a9:Hid ((∀q,f q->(m q\/q=z))/\(∀q,(m q\/q=z)->f q\/w<=q)/\Touch (QE f) w a4):=Ac ⟨λq e=>.inl (J q (i.1 q e)),λq e=>e.elim (λh=>(bi q h).elim (i.2.1 q) (λbx=>.inr O)) (λn=>by subst n;exact .inr (V _ rfl).1),aD⟩;have bh:Hid (∀q,(Value.slice (jm (Φ z)) (a+1) bl).ownBlock=jm q->(m q\/q=z)):=Ac (λq e=>by injection e with e;exact .inr e.symm);have bd:=Ac aw;have bk:=Ac K;clear W aw aD V K ah ao al;go_wp2;exact⟨⟨a+1,_,az++[⟨Q,fM p u s,P,M,N⟩],by rw[AO,y.out];rfl,O,by go_num,bd.out,a9.out,by rw[Aax];exact bk.out,bh.out⟩,mz⟩
  ·have bp:a=o:=O;subst bp;have bM:=wO (Nat.lt_irrefl a);have r:=ac.out;have r:=Ac r;go_wp2;go_ret;exact⟨_,X,az,rfl,y.out,by rw[y.out];exact r.out,ad.out,i.1,i.2.1,C.out,i.2.2⟩
section
variable{w w':jT}{g d p x tt bk L:Nat}{s s2:St}{b:Bk}{t:Tb}{F F2 J:Nat->Prop}{oV:ni}{jv:ku}{id:Int}{sv:ku}{st:ni}{jb:Nat}
def CB.set{m0:DJ}(h:CB m0 w g d p x tt bk L s b t F J oV jv id sv st){c:ni}{f:ku}{e:Int}{l:ku}{i:ni}(k:Touch (·=g) w w')(n:Cm w' g 90 (CZ d p x tt c f e l i)):CB m0 w' g d p x tt bk L s b t F J c f e l i:=
 ⟨⟨h.ix.sys.keep k (λm o a=>h.fg (a▸o)) (λa=>h.c3.1 a.symm) (λa=>h.c3.2 a.symm),h.ix.box.touch k (λa=>h.g4 a.symm),h.ix.out⟩,h.tb.moved ⟨k.mono (λm a=>Or.inr (by rw[a];exact h.jg)),λ_=>.inl⟩,h.jg,λr q=>Bc (h.jl r q) k.size,n,h.fg,h.g1,h.g2,h.g3,h.g4,h.x1,h.x2,h.c1,h.c2,h.c3⟩
def CB.Gn{m0:DJ}(h:CB m0 w g d p x tt bk L s b t F J oV jv id sv st){c:Tb}(e:Hm w' (λk=>F k\/J k) tt bk b c)(k:Touch (·=b.nt) w w'):CB m0 w' g d p x tt bk L s b c F J oV jv id sv st:=
 ⟨⟨h.ix.sys.keep k (λ_ f a=>h.tb.fn (a▸.inl f)) (λa=>h.c2.1 a.symm) (λa=>h.c2.2 a.symm),h.ix.box.touch k h.x2,h.ix.out⟩,e,h.jg,λl i=>Bc (h.jl l i) k.size,h.box.touch k h.g3,h.fg,h.g1,h.g2,h.g3,h.g4,h.x1,h.x2,h.c1,h.c2,h.c3⟩
end
def Aay{w:jT}{G:Nat->Prop}{v:ku}{s:List Wr}(h:FP w G v s)(b:s.length<=16)(x:Wr)(a:x.key.size<=4294967296)(c:x.text.size<=4294967296)(f:QY s):
 Calls prog 155 #[v,OY x] w λi w'=>∃g,i=iO (iJ #[g,gz iU (IV s x).2])/\w'.ownsRow w 143 3 g (IV s x).1.length (GK (IV s x).1)/\η w w':=by
 cases d:D5 x with
 |false=>exact Aap h b x a c d
 |true=>
  cases e:ny s x.key with
  |true=>exact Aaq h b x a c d f e
  |false=>
   by_cases k:16<=s.length
   ·exact vN h b x a c d f e k
   ·exact Aar h b x a c d f e O
def Aks(s:List Wr)(x:Wr):(IV s x).2=0\/(IV s x).2=2\/(IV s x).2=3:=by
 unfold IV
 repeat' split
 all_goals simp
section
variable{w w':jT}{F j:Nat->Prop}{tt bk:Nat}{b:Bk}{t:Tb}
def bn(h:Hm w F tt bk b t){i:Nat}(hi:i<8)(D:t.wt.ops i=jO)(x:Wr){f:Int}(C:f=2\/f=3)
 (y:∀c,η w c->Calls prog 155 #[b.st i,OY x] c λk w'=>∃z G d,k=iO (iJ #[fM z G d,f])/\η c w'):
 Calls prog 101 #[AB tt,i,OY x] w λk w'=>k=iO f/\η w w':=by
 obtain⟨c,o,p,u⟩:=E5 w 143 [x.key,x.text,x.gone];have a:Hm c F tt bk b t:=h.below p;obtain⟨q,r,s⟩:=u.p3;have v:=Ac (Rh a);have l:=Ac (uB a.book (i:Int));rw[a.wt,SL hi D]at l;have d:=a.box.p1;have g:=a.book.cellSt i hi;have J:(i:Int)<8:=O;obtain⟨e,A,m⟩:=l9 p o y;obtain⟨vs,E⟩:∃vs,b.st i=vs:=⟨_,rfl⟩;rw[E]at m g;rw[o]at q r s d g;unfold OY at m⊢;clear h a p o y u;rcases C with rfl|rfl
 all_goals(
  go_in;go_wp2_with(first|(rw[<-A.out]at q r s d g⊢;refine v.ro ?_)|(refine l.ro ?_));go_region_with(go_at_call 155;refine(m _ (by first|exact e|exact τ e.out (mX _))).mono ?_;rintro k H⟨I,L,K,rfl,n⟩))
 all_goals(
  have B:Hid (η w H):=Ac (by
   first
   |exact τ e.out n
   |exact τ e.out ((mX _).trans n))
  clear n q r s d g v l;go_wp2;go_ret;exact⟨rfl,B⟩)
end
def wrT(t:Tb)(i:Nat)(y:Wr):Tb:=if(IV (t.sets i) y).2=0 then writeT t i (IV (t.sets i) y).1 else t
section
variable{w w':jT}{F j:Nat->Prop}{tt bk:Nat}{b:Bk}{t:Tb}
def YC(h:Hm w F tt bk b t)(r:∀q,F q->q<w){i:Nat}(hi:i<8)(o:t.wt.ops i=jO)(u:(t.sets i).length<=16)(y:QY (t.sets i))(x:Wr)(s:x.key.size<=4294967296)(v:x.text.size<=4294967296):
 Calls prog 101 #[AB tt,i,OY x] w λf w'=>f=iO (gz iU (IV (t.sets i) x).2)/\
  ∃m,m.many=b.many/\m.nt=b.nt/\Hm w' F tt bk m (wrT t i x)/\Touch (·=bk) w w':=by
 have g:=λd(e:η w d)=>Aay ((h.sets i hi).below e) u x s v y
 rcases Aks (t.sets i) x with c|c|c
 ·rw[c]at g;unfold wrT;rw[kX c,c];exact Anw h r hi o x _ (λd e=>(g d e).mono (by rintro f w'⟨p,rfl,k,a⟩;exact⟨p,rfl,k,a⟩))
 ·rw[c]at g;unfold wrT;rw[lg (by rw[c];decide),c];refine(bn h hi o x (.inl rfl) (λd e=>(g d e).mono ?_)).mono ?_
  ·rintro f w'⟨p,rfl,k,a⟩;obtain⟨l,n,rfl,_⟩:=C9 k;exact⟨l,_,n,rfl,a⟩
  ·rintro f w'⟨rfl,a⟩;exact⟨rfl,b,rfl,rfl,h.below a,mD a⟩
 ·rw[c]at g;unfold wrT;rw[lg (by rw[c];decide),c];refine(bn h hi o x (.inr rfl) (λd e=>(g d e).mono ?_)).mono ?_
  ·rintro f w'⟨p,rfl,k,a⟩;obtain⟨l,n,rfl,_⟩:=C9 k;exact⟨l,_,n,rfl,a⟩
  ·rintro f w'⟨rfl,a⟩;exact⟨rfl,b,rfl,rfl,h.below a,mD a⟩
end
section
variable{m0:DJ}{w w':jT}{g d p x tt bk L:Nat}{s:St}{b:Bk}{t:Tb}{F J:Nat->Prop}{oV:ni}{jv:ku}{id:Int}{sv:ku}{st:ni}
def Un{t:Wt}{i:Nat}(hi:i<8)(a:t.ops i=jO):Ey t (i:Int)=true:=by
 unfold Ey;simp only[Bool.and_eq_true,decide_eq_true_eq];exact⟨O,O,a⟩
def Aaz(h:CB m0 w g d p x tt bk L s b t F J oV jv id sv st){o:Option Nat}(G:OnV jv id o){i:Nat}(D:U5 t.wt o (i:Int)=0)(hi:i<8)(V:t.wt.ops i=jO)(W:(t.sets i).length<=16)(Y:QY (t.sets i))(y:Wr)(T:y.key.size<=4294967296)(X:y.text.size<=4294967296):
 Calls prog 53 #[AB g,i,OY y] w λA w'=>A=iO (gz iU (IV (t.sets i) y).2)/\
  ∃m,m.many=b.many/\m.nt=b.nt/\CB m0 w' g d p x tt bk L s m (wrT t i y) F J oV jv id sv st/\Touch (·=bk) w w':=by
 obtain⟨f,B,n,k⟩:=E5 w 143 [y.key,y.text,y.gone];have c:=h.below n;have r:=Ac (dN c G (i:Int));rw[D]at r;have l:=Ac (λa(e:η f a)=>YC (c.tb.below e) (λu R=>R.elim ((c.ix.below e).sys.lt u) (λS=>Bc (c.jl u S) e.size)) hi V W Y y T X);obtain⟨z,C⟩:∃z,(IV (t.sets i) y).2=z:=⟨_,rfl⟩;rw[C]at l⊢;unfold OY at l⊢;have v:=c.box.c3;unfold CZ at v;obtain⟨aa,ab,ac⟩:=k.p3;have M:Hid (∀a,Touch (·=bk) f a->a.cell? (Δ g 3)=jm (AB tt)/\a.cell? (Φ w)=jm (ig y.key)/\a.cell? (Δ w 1)=jm (ig y.text)/\a.cell? (Δ w 2)=jm (.bool y.gone)):=Ac (λa e=>
  have q:¬w=bk:=Ω h.tb.book.lt
  ⟨(c.box.touch e h.g2).cell 3,(k.touch e q).cell 0,(k.touch e q).cell 1,(k.touch e q).cell 2⟩)
 obtain⟨K,N,O⟩:=l9 c B n;clear h c n B k C G D;go_in;go_wp2_with(rw[<-N.out];refine r.ro ?_);go_region_held3(λw'=>w'.cell? (Δ g 3)=jm (AB tt)/\w'.cell? (Φ w)=jm (ig y.key)/\w'.cell? (Δ w 1)=jm (ig y.text)/\w'.cell? (Δ w 2)=jm (.bool y.gone))
  (first|exact⟨v,aa,ab,ac⟩|exact M _ ((mD (mX f)).trans H (λ_=>.inl)))
  ((first|(go_at_call 101;refine(l _ (mX f)).mono ?_;rintro A Z⟨rfl,P,U,E,Q,H⟩)))
 all_goals(go_wp2)
 all_goals(go_ret)
 all_goals(
  have I:Touch (·=bk) f Z:=(mD (mX f)).trans H (λ_=>.inl);exact⟨rfl,P,U,E,K.book Q E I,(mD O).trans I (λ_=>.inl)⟩)
def Apa{i:Int}{k l:nG}{d:Int}{c:jT->Prop}(f:Calls prog 53 #[AB g,i,OY ⟨k,l,jS⟩] w λa w'=>a=iO d/\c w'):
 Calls prog 27 #[AB g,i,k,l] w λa w'=>a=iO d/\c w':=by
 have b:=Ac f;unfold OY at b;clear f;go_in;go_wp2_with(refine b.out.mono ?_;rintro a n⟨rfl,e⟩;have m:=Ac e;clear e b);go_ret;exact⟨rfl,m⟩
def Apb{i:Int}{k:nG}{d:Int}{c:jT->Prop}(f:Calls prog 53 #[AB g,i,OY ⟨k,⟨#[]⟩,jO⟩] w λa w'=>a=iO d/\c w'):
 Calls prog 28 #[AB g,i,k] w λa w'=>a=iO d/\c w':=by
 have b:=Ac f;unfold OY at b;clear f;go_in;go_wp2_with(refine b.out.mono ?_;rintro a m⟨rfl,e⟩;have l:=Ac e;clear e b);go_ret;exact⟨rfl,l⟩
def Ae5(h:CB m0 w g d p x tt bk L s b t F J oV jv id sv st){o:Option Nat}(l:OnV jv id o){i:Int}(c:U5 t.wt o i≠0)(y:Wr):
 Calls prog 53 #[AB g,i,OY y] w λu w'=>u=iO (gz iU (U5 t.wt o i))/\η w w':=by
 obtain⟨v,f,a,m⟩:=E5 w 143 [y.key,y.text,y.gone];have e:=Ac (dN (h.below a) l i);obtain⟨r,k⟩:=ε (U5 t.wt o i);rw[<-k]at e c⊢;have t1:(r==0)=false:=beq_eq_false_iff_ne.2 c;have n:=Ac f;have q:=Ac a;unfold OY;clear h a f m l c k;go_in;go_wp2_with(rw[<-n.out];refine e.ro ?_);go_ret;exact⟨rfl,q⟩
def Atd(h:CB m0 w g d p x tt bk L s b t F J oV jv id sv st){o:Option Nat}(l:OnV jv id o){i:Nat}(f:U5 t.wt o (i:Int)=0)(hi:i<8)(A:t.wt.ops i=jO):
 Calls prog 33 #[AB g,i] w λe w'=>e=iO (gz iU 0)/\
  ∃a,a.many=b.many/\a.nt=b.nt/\CB m0 w' g d p x tt bk L s a (Gv t i) F J oV jv id sv st/\Touch (·=bk) w w':=by
 have c:=Ac (dN h l (i:Int));rw[f]at c;have q:=Ac (λr(B:η w r)=>Zn (h.tb.below B) hi A);have v:=h.box.c3;unfold CZ at v;have n:=Ac h;clear h l f;go_in;go_wp2_with(first|(refine c.out.ro ?_)|(refine(q.out _  mZ).mono ?_;rintro e C⟨rfl,u,z,k,y,m⟩));go_ret;exact⟨rfl,u,z,k,n.book y k m,m⟩
def Ae6(h:CB m0 w g d p x tt bk L s b t F J oV jv id sv st){o:Option Nat}(f:OnV jv id o){i:Int}(a:U5 t.wt o i≠0):
 Calls prog 33 #[AB g,i] w λl w'=>l=iO (gz iU (U5 t.wt o i))/\w=w':=by
 have c:=Ac (dN h f i);obtain⟨k,e⟩:=ε (U5 t.wt o i);rw[<-e]at c a⊢;have t1:(k==0)=false:=beq_eq_false_iff_ne.2 a;clear h f e a;go_in;go_wp2_with(refine c.out.ro ?_);go_ret;exact⟨rfl,rfl⟩
end
def Tryz.Uo:IK prog 37 159 (iK #[ig ⟨#[]⟩,ig ⟨#[]⟩]) 2 32:=⟨underlying37,by kernel_rfl,rfl⟩
def FB(key b a:nG):Bool:= !Op.bytesLess key.toList b.toList&&(a.toList==[]||Op.bytesLess key.toList a.toList)
def kN(key b a:nG)(w:jT):Calls prog 61 #[key,b,a] w λd w'=>d=iO (.bool (FB key b a))/\w=w':=by
 have i:(⟨#[]⟩:nG).toList=[]:=by unfold ByteArray.toList ByteArray.toList.loop;rfl
 cases e:Op.bytesLess key.toList b.toList<;>cases f:(a.toList==[])<;>cases g:Op.bytesLess key.toList a.toList
 all_goals(have c:Hid (FB key b a=_):=Ac (by unfold FB;rw[e,f,g]);go_in)
 all_goals(go_wp2)
 all_goals(go_ret)
 all_goals(exact⟨by rw[c.out];rfl,rfl⟩)
structure On where
 id:Nat
 set:List Wr
 ps:List (ni×ni)
structure Eg where
 q:Ms
 t:Tb
 oV:ni
 on:Option On
def Eg.dn(E:Eg):Bool:=match E.q.pw with| .up _=>jS| .down _=>jO
def KA(E:Eg):Eg×Int×Int:=match MM E.t.wt with
 |none=>(E,0,6)
 |some a=>({E with t:=Zm E.t a E.oV},a,0)
def P5(E:Eg)(id:Int):Int:=if Ey E.t.wt id=jO then(match E.on with|some o=>if(o.id:Int)=id then 11 else 0|none=>0)else 2
def IP(E:Eg)(id:Int)(y:Wr):Eg×Int:=
 if P5 E id≠0 then(E,P5 E id)else({E with t:=wrT E.t id.toNat y},(IV (E.t.sets id.toNat) y).2)
def MF(E:Eg)(id:Int):Eg×Int:=if P5 E id≠0 then(E,P5 E id)else({E with t:=Gv E.t id.toNat},0)
def Ju(E:Eg)(id:Int):Eg×Int:=
 if Ey E.t.wt id=jS then(E,2)else if E.on.isSome then(E,11)else
 if E.t.sets id.toNat=[]then({E with t:=Gv E.t id.toNat},0)else
 if JH E.t.Gn (E.t.sets id.toNat) (E.t.wt.ats id.toNat)then({E with t:=Gv E.t id.toNat},9)else
 if 60000<=E.oV.toNat then({E with t:=Gv E.t id.toNat},10)else
 if E.dn then(E,12)else({E with on:=jm ⟨id.toNat,E.t.sets id.toNat,[]⟩},0)
def On.done(o:On):List Past:=List.zipWith (λ(a:Wr)q=>(a.key,q)) o.set o.ps
def NS(q:Ms)(nK:ni)(o:On):Ms×List (ni×ni)×Bool×Int:=match o.set[o.ps.length]? with
 |some a=>if(writeM q nK a).2.2.2=0 then((writeM q nK a).1,o.ps++[((writeM q nK a).2.1,(writeM q nK a).2.2.1)],jS,0)
  else(QC (writeM q nK a).1 o.done.reverse,o.ps,jO,(writeM q nK a).2.2.2)
 |none=>if(KG q 3 (DD q.s.ws 8 nK)).2=0 then((KG q 3 (DD q.s.ws 8 nK)).1,o.ps,jO,0)
  else(QC (KG q 3 (DD q.s.ws 8 nK)).1 o.done.reverse,o.ps,jO,(KG q 3 (DD q.s.ws 8 nK)).2)
def Il(E:Eg):Eg×Int×Bool×Int:=match E.on with
 |none=>(E,0,jO,7)
 |some o=>match NS E.q (E.oV+1) o with
  |(q,ps,jS,_)=>({E with q:=q,on:=jm {o with ps:=ps}},o.id,jS,0)
  |(q,_,jO,a)=>({q:=q,t:=if a=0 then Py (Gv E.t o.id) o.set (E.oV+1)else Gv E.t o.id,oV:=if a=0 then E.oV+1 else E.oV,on:=jw},o.id,jO,a)
section
variable{w w':jT}{d L:Nat}{s:St}
def Aww{own:Nat->Prop}{oV:ni}(H:Tabs w)
 (G:Calls prog 24 #[AB d] w λf w'=>∃p x F,f=iO (iJ #[iK #[AB p,AB x,oV],gz iU 0])/\
  Ix w' x d p L s F/\η w w'/\(∀b,F b->own b\/w<=b)/\w<=x):
 Calls prog 16 #[AB d] w λf w'=>∃g p x tt bk nt F,f=iO (iJ #[AB g,gz iU 0])/\
  Ag3 w' g d p x tt bk L s (bk0 nt) tb0 F (·=g) oV .nilIface 0 (fM jw 0 0) 0/\η w w'/\(∀b,F b->own b\/w<=b)/\w<=x/\w<=g/\w<=tt/\w<=bk/\w<=nt:=by
 have aa:=H.lt;have C:=Ac G;clear G H;go_in;go_wp2_with fail;refine C.mono ?_;rintro f i⟨p,x,F,rfl,A,I,D,N⟩;have P:=Ac D;have S:=Ac N;obtain⟨a,z,o,l⟩:=E5 i 81 [AB p,AB x,oV];have Z:a.heap.size=i+1:=by rw[z];simp
 obtain⟨u,B,Q⟩:=l9 (A.below o) (τ I o) (An1 F a.drew (λk y=>(A.below o).sys.lt k y));have t:Hid (∀e,η a e->e.cell? (Φ i)=jm (AB p)/\e.cell? (Δ i 1)=jm (AB x)/\e.cell? (Δ i 2)=jm (gz iV (oV.toNat:Int))):=Ac (λe k=>⟨(l.ξ k).cell 0,(l.ξ k).cell 1,(l.ξ k).cell 2⟩);obtain⟨W,X,Y⟩:=t a  mZ;have R:=Ac z;clear A I D N z o l C;go_wp2_with fail;rw[<-R.out];go_region_held3(λw'=>w'.cell? (Φ i)=jm (AB p)/\w'.cell? (Δ i 1)=jm (AB x)/\w'.cell? (Δ i 2)=jm (gz iV (oV.toNat:Int)))
  (first|exact⟨W,X,Y⟩|exact t _ ((mX a).trans q)|exact t _ (((mX a).trans q).alloc ((mX a).trans q).size _))
  ((first|(go_at_call 25;refine Q.mono ?_;rintro f c⟨tt,bk,nt,rfl,M,J,K,m,q⟩)))
 all_goals(go_wp2)
 all_goals(go_ret2)
 all_goals(
  obtain⟨e,n⟩:=ε (c.alloc (ji (CZ d p x tt oV .nilIface 0 (fM jw 0 0) 0).toArray 90));have v:η c e:=n▸ mZ.alloc (Ae _) _;have E:Cm e c 90 (CZ d p x tt oV .nilIface 0 (fM jw 0 0) 0):=n▸heap_alloc_new _ _;have M:a<=tt:=M;have J:a<=bk:=J;have K:a<=nt:=K;have r:η a c:=(mX a).trans q;have ab:=u.box.lt;have T:=u.sys.lt;have ac:=m.box.lt;have ad:=m.book.lt;have ae:nt<c:=m.map.lt;have s2:=B.size;have ah:=r.size;have V:=E.lt;refine⟨c,p,x,tt,bk,nt,F,rfl,?_,?_,P,S,O,O,O,O⟩
  ·show Ag3 (c.alloc (ji (CZ d p x tt oV .nilIface 0 (fM jw 0 0) 0).toArray 90)) _ _ _ _ _ _ _ _ _ _ _ _ _ _ _ _ _;rw[<-n];refine⟨(u.below r).below v,m.moved ⟨mD v,λk y=>y.imp id (λf=>O)⟩,rfl,λk f=>by rw[f];exact V,E,λU=>Ω (T _ U),O,O,by show c≠nt;omega,O,O,by show x≠nt;omega,⟨O,O⟩,⟨by show nt≠_;omega,by show nt≠_;omega⟩,⟨O,O⟩⟩
  ·show η w (c.alloc (ji (CZ d p x tt oV .nilIface 0 (fM jw 0 0) 0).toArray 90));rw[<-n];exact τ B.out (τ r v))
end
def Ate(sh:Sh)(i:Nat):Iu (st0 sh) i=0:=by
 unfold Iu st0;simp only[List.getD_eq_getElem?_getD,List.getElem?_replicate];split<;>rfl
def Apc(sh:Sh):sJ (st0 sh)=[]:=by
 unfold sJ;rw[List.flatMap_eq_nil_iff];intro a _;rw[Ate,show Wv 0=[]from by decide];rfl
def kP(sh:Sh):Em (st0 sh)=jm ([],[]):=by
 unfold Em;rw[kX (show(st0 sh).ws 9=0 from Nw sh 9 U)]
def Auv:JE (FH [])=true:=by unfold FH;simp[JE]
def Auw{s:St}:IA s [] (FH [])=jm []:=by unfold FH;simp[IA]
structure Aux(B g x tt bk nt:Nat)(F:Nat->Prop):Prop where
 f:∀b,F b->B<=b
 g:B<=g
 x:B<=x
 tt:B<=tt
 bk:B<=bk
 nt:B<=nt
def Atf{w:jT}{L:Nat}{sh:Sh}(t:0<L)(r:L<=1024)(y:shapeOf L=jm sh)(e:Tabs w):
 Calls prog 6 #[L] w λc w'=>∃d g p x tt bk nt F,c=iO (iJ #[AB d,AB g])/\
  Ag3 w' g d p x tt bk L (st0 sh) (bk0 nt) tb0 F (·=g) 0 .nilIface 0 (fM jw 0 0) 0/\η w w'/\Aux w g x tt bk nt F:=by
 have av:=e.lt;obtain⟨z,A,v2,B,Q⟩:∃z A v2 B:Nat,shV sh=iK #[z,A,v2,B]:=⟨_,_,_,_,rfl⟩;have W:=Ac Q;have G:=Ac (J4 y).table;clear Q;go_in;go_wp2_with fail;refine(Aq6 L w t r).mono ?_;rintro c ae⟨d,o,rfl,N,aq,ar,f⟩;have H:Dev ae d L (λ_=>0) M0 (λ_=>0) (FZ d L o (λ_=>jw)):=⟨o,_,N,λ_=>Iff.rfl⟩;have k:∀b,FZ d L o (λ_=>jw) b->w<=b:=λb h=>by
  rcases h with h|h|⟨_,_,h⟩
  ·omega
  ·omega
  ·cases h
 have a:=Ac6 t r y H (e.below f) (λh=>Ω (k _ h)) (λh=>Ω (k _ h));rw[Adg,show CQ (λ_=>0) 0 (wordsOf sh)=Nq sh from rfl,W.out]at a;have a:=Ac a;clear N H;go_wp2_with fail;refine a.out.mono ?_;rintro c S⟨rfl,C,I,u⟩;have K:η w S:=f.trans (u.touch.below f.size k);have v:∀b,C b->w<=b:=λb h=>(u.own b h).elim (k b) (λh=>AZ f.size h)
 obtain⟨aD,R,m,-⟩:=E5 S 55 [z,A,v2,B];have i:=τ K m;have P:st0 sh={sh:=sh,ws:=Nq sh,tk:=wordsAt (Nq sh) (sh.table/8) sh.CE,hd:=BJ sh.CE 0}:=by rw[uy sh G.out];rfl
 have q:Nq sh 8=0:=Nw sh 8 U;have E:=Ao9 t r y (I.below m) (e.below i) (λh=>Ω (v _ h)) (λh=>Ω (v _ h)) (yJ sh) (λaw au=>by rw[Nw sh _ (by rw[G.out];omega)];rfl) P
  (kP sh) (l:=[]) Auw U Auv (by rw[q];decide) (λaz ab=>absurd ab (Nat.not_lt_zero _)) (λah p x F ad=>Akp ad (kP sh) (l:=[]) Auw U Auv (Apc sh))
 have n:=Ac (Aww (s:=st0 sh) (L:=L) (oV:=Nq sh 8) (own:=C) (e.below i) E);rw[q]at n;obtain⟨D,Y,X⟩:=l9 i v R;clear K m I u a i E P q R;go_wp2_with(rw[<-X.out];refine n.mono ?_;rintro c aE⟨g,p,x,tt,bk,nt,F,rfl,J,M,Z,al,am,an,ao,ap⟩;have V:=Ac J;have T:=Ac (τ D.out M);have ac:=D.size;clear J M n);go_ret2;exact⟨d,g,p,x,tt,bk,nt,F,rfl,V,T,⟨λb aa=>(Z b aa).elim (Y b) (λh=>AZ ac h),O,O,O,O,O⟩⟩
structure Apart(X F:Nat->Prop)(g x:Nat):Prop where
 ng:¬X g
 nx:¬X x
 nf:∀q,F q->¬X q
 c1:¬X 0
 c2:¬X 1
section
variable{m0:DJ}{w w':jT}{g d p x tt bk L:Nat}{s s2:St}{b:Bk}{t:Tb}{F F2 J X X':Nat->Prop}{oV:ni}{jv:ku}{id:Int}{sv:ku}{st:ni}{jb:Nat}
def CB.Ae7(h:CB m0 w g d p x tt bk L s b t F J oV jv id sv st){J':Nat->Prop}(e:∀q,J q<->J' q):CB m0 w g d p x tt bk L s b t F J' oV jv id sv st:=by
 have:J=J':=funext λq=>propext (e q)
 exact this▸h
def Apart.more(h:Apart X F g x)(f:CB m0 w g d p x tt bk L s b t F J oV jv id sv st)(c:∀q,X' q->X q\/(w<=q/\q<w')):Apart X' F g x:=by
 have l:=f.box.lt;have m:=f.ix.box.lt;have k:=f.ix.sys.lt;have n:=f.ix.sys.tabs.lt;exact⟨λa=>(c _ a).elim h.ng (λe=>O),λa=>(c _ a).elim h.nx (λe=>O),λq i a=>(c _ a).elim (h.nf q i) (λe=>Ω (k q i)),λa=>(c _ a).elim h.c1 (λe=>O),λa=>(c _ a).elim h.c2 (λe=>O)⟩
def CB.frame(h:CB m0 w g d p x tt bk L s b t F (λq=>J q\/X q) oV jv id sv st)(a:Apart X F g x)(k:Touch X w w')(i:∀q,X' q->X q\/(w<=q/\q<w')):CB m0 w' g d p x tt bk L s b t F (λq=>J q\/X' q) oV jv id sv st:=by
 have n:AQ (λq=>F q\/(J q\/X q)) (λq=>F q\/(J q\/X' q)) w w':=⟨k.mono (λq c=>.inr (.inr c)),λq c=>by
  rcases c with c|c|c
  ·exact .inl (.inl c)
  ·exact .inl (.inr (.inl c))
  ·exact(i q c).imp (λh=>.inr (.inr h)) (λh=>h.1)⟩
 refine⟨⟨h.ix.sys.keep k (λl m=>a.nf l m) a.c1 a.c2,h.ix.box.touch k a.nx,h.ix.out⟩,h.tb.moved n,?_,λq c=>?_,h.box.touch k a.ng,h.fg,h.g1,h.g2,h.g3,h.g4,h.x1,h.x2,h.c1,h.c2,h.c3⟩
 ·rcases h.jg with f|f
  ·exact .inl f
  ·exact absurd f a.ng
 ·rcases c with c|c
  ·exact Bc (h.jl q (.inl c)) k.size
  ·rcases i q c with e|e
   ·exact Bc (h.jl q (.inr e)) k.size
   ·exact e.2
end
section
variable{g d p x tt bk L:Nat}{s s2:St}{t:Tb}{oV:ni}
def CB.apart{m0:DJ}{c:jT}{b:Bk}{F J X:Nat->Prop}{jv sv:ku}{id:Int}{st:ni}(h:CB m0 c g d p x tt bk L s b t F (λq=>J q\/X q) oV jv id sv st):¬X bk/\¬X b.nt/\¬X tt:=
 ⟨λa=>h.tb.fb (.inr (.inr a)),λa=>h.tb.fn (.inr (.inr a)),λa=>h.tb.ft (.inr (.inr a))⟩
def KH.qQ{m0:DJ}{c:jT}{F:Nat->Prop}(h:KH m0 c x d p L s F):¬F 0/\¬F 1:=by
 obtain⟨k,g,i,f,e,own,b,hF⟩:=h.sys;exact⟨λa=>b.g1 ((hF _).1 a),λa=>b.g2 ((hF _).1 a)⟩
def KY{X:Nat->Prop}{q:Nat}(h1:¬X q)(h2:q≠0)(h3:q≠1):QE X q:=λh=>h.elim h1 (λh=>h.elim h2 h3)
end
section
variable{m0:DJ}{w w':jT}{pI jb x d p L:Nat}{s:St}{nK:ni}{vs:ku}{l:List Wr}{ps:List (ni×ni)}{over:Bool}{en:Int}{F:Nat->Prop}{v:ku}
def FU.keep(h:FU m0 w pI jb x d p L s nK vs l ps over en F v){K:Nat->Prop}(k:Touch K w w')(hF:∀a,F a->¬K a)(c:¬K jb)(f:∀q,v.ownBlock=jm q->¬K q)(g:¬K x)
 (h1:¬K 0)(h2:¬K 1)(e:FP w' (λb=>F b\/b=jb\/v.ownBlock=jm b) vs l):FU m0 w' pI jb x d p L s nK vs l ps over en F v:=
 ⟨⟨h.ix.sys.keep k hF h1 h2,h.ix.box.touch k g,h.ix.out⟩,h.box.touch k c,Ie h.row k f,e,h.fj,h.bj,h.bx,h.bt,h.mj,h.mF⟩
end
structure Atg(m:DJ)(w:jT)(g bk nt x d p L:Nat)(s:St)(oV:ni)(o:On)(F J X:Nat->Prop)(jb:Nat)(sv vs v:ku)(pI:Nat):Prop where
 cj:FU m w pI jb x d p L s (oV+1) vs o.set o.ps jS 0 F v
 jj:J jb
 jv:∀q,v.ownBlock=jm q->J q
 xj:¬X jb
 xv:∀q,v.ownBlock=jm q->¬X q
 gj:jb≠g
 gv:v.ownBlock≠jm g
 vs:FP w (EF F (λq=>J q\/X q) bk nt jb) vs o.set
 sv:FP w (EF F (λq=>J q\/X q) bk nt jb) sv o.set
def OnM(on:Option On)(m:DJ)(w:jT)(g bk nt x d p L:Nat)(s:St)(oV:ni)(F J X:Nat->Prop)(jv:ku)(id:Int)(sv:ku)(st:ni):Prop:=match on with
 |none=>jv=.nilIface/\id=0/\sv=fM jw 0 0/\st=0
 |some o=>id=(o.id:Int)/\st=oV+1/\∃jb vs v pI,jv=.iface 162 (AB jb)/\Atg m w g bk nt x d p L s oV o F J X jb sv vs v pI
def O7(g d p x tt bk L:Nat)(E:Eg)(w:jT)(X:Nat->Prop):Prop:=
 ∃(b:Bk)(F J:Nat->Prop)(jv:ku)(id:Int)(sv:ku)(st:ni),
  CB E.q.pw.mode w g d p x tt bk L E.q.s b E.t F (λq=>J q\/X q) E.oV jv id sv st/\Apart X F g x/\OnM E.on E.q.pw.mode w g bk b.nt x d p L E.q.s E.oV F J X jv id sv st
section
variable{m0:DJ}{w w':jT}{g d p x tt bk nt L:Nat}{s:St}{b:Bk}{t:Tb}{F J X X':Nat->Prop}{oV:ni}{jv:ku}{id:Int}{sv vs v:ku}{st:ni}{jb pI:Nat}{o:On}{on:Option On}{E:Eg}
def EF.moved{J':Nat->Prop}(k:Touch (EF F J bk nt jb) w w')(b:∀q,J' q->J q\/w<=q):AQ (EF F J bk nt jb) (EF F J' bk nt jb) w w':=⟨k,λq a=>by
 rcases a with a|a|a
 ·exact .inl (.inl a)
 ·exact(b q a).imp (λh=>.inr (.inl h)) (λh=>h)
 ·exact .inl (.inr (.inr a))⟩
def FP.jobs{c:jT}{vs:ku}{l:List Wr}(h:FP c (EF F J bk nt jb) vs l)(d:∀q,v.ownBlock=jm q->J q):FP c (λb=>F b\/b=jb\/v.ownBlock=jm b) vs l:=
 h.mono (λq _ a=>by
  rcases a with a|a|a
  ·exact .inl a
  ·exact .inr (.inr (.inr (.inr a)))
  ·exact .inr (.inl (d q a)))
def OnM.keep(h:OnM on m0 w g bk nt x d p L s oV F J X jv id sv st){K:Nat->Prop}(k:Touch K w w')(m:∀q,K q->q=g\/X q\/q=bk\/q=nt)(B:J g\/X g)(e:¬K x)(hF:∀i,F i->¬K i)(h1:¬K 0)(h2:¬K 1)
 (l:∀q,J q->q≠bk/\q≠nt)(c:∀q,X' q->X q\/(w<=q/\q<w')):OnM on m0 w' g bk nt x d p L s oV F J X' jv id sv st:=by
 cases on with
 |none=>exact h
 |some o=>
  obtain⟨y,z,jb,vs,v,pI,A,h⟩:=h;have G:=h.cj.box.lt;have t:AQ (EF F (λq=>J q\/X q) bk nt jb) (EF F (λq=>J q\/X' q) bk nt jb) w w':=EF.moved (k.mono (λq a=>by
   rcases m q a with rfl|a|a|a
   ·exact .inr (.inl B)
   ·exact .inr (.inl (.inr a))
   ·exact .inr (.inr (.inl a))
   ·exact .inr (.inr (.inr (.inl a))))) (λq a=>by
   rcases a with a|a
   ·exact .inl (.inl a)
   ·exact(c q a).imp .inr (·.1))
  have u:∀q,J q->¬X q->q≠g->¬K q:=λq n e C D=>by
   rcases m q D with b|b|b|b
   ·exact C b
   ·exact e b
   ·exact(l q n).1 b
   ·exact(l q n).2 b
  have r:=h.vs.moved t;have E:∀q,v.ownBlock=jm q->¬X' q:=λq a f=>(c q f).elim (h.xv q a) (λb=>Ω ((h.cj.mlt q a).2))
  exact⟨y,z,jb,vs,v,pI,A,⟨h.cj.keep k hF (u jb h.jj h.xj h.gj) (λq a=>u q (h.jv q a) (h.xv q a) (λb=>h.gv (b▸a))) e h1 h2 (r.jobs (λq a=>.inl (h.jv q a))),
   h.jj,h.jv,λf=>(c _ f).elim h.xj (λb=>O),E,h.gj,h.gv,r,h.sv.moved t⟩⟩
def CB.A05(h:CB m0 w g d p x tt bk L s b t F (λq=>J q\/X q) oV jv id sv st):∀q,J q->q≠bk/\q≠b.nt:=λ_ c=>⟨λa=>h.tb.fb (.inr (.inl (a▸c))),λa=>h.tb.fn (.inr (.inl (a▸c)))⟩
def O7.frames:Frames (O7 g d p x tt bk L E):=by
 rintro n o X X'⟨b,F,J,jv,id,sv,st,h,a,l⟩e c;exact⟨b,F,J,jv,id,sv,st,h.frame a e c,a.more h c,l.keep e (λq m=>.inr (.inl m)) h.jg a.nx (λf i k=>a.nf f i k) a.c1 a.c2 h.A05 c⟩
def OnM.onv(h:OnM on m0 w g bk nt x d p L s oV F J X jv id sv st):OnV jv id (on.map (·.id)):=by
 cases on with
 |none=>exact h.1
 |some o=>
  obtain⟨a,c,jb,vs,v,pI,b,h⟩:=h;exact⟨a,jb,b⟩
def O7.book{b:Bk}{F J:Nat->Prop}{jv:ku}{id:Int}{sv:ku}{st:ni}(h:CB E.q.pw.mode w g d p x tt bk L E.q.s b E.t F (λq=>J q\/X q) E.oV jv id sv st)(a:Apart X F g x)(n:OnM E.on E.q.pw.mode w g bk b.nt x d p L E.q.s E.oV F J X jv id sv st)
 {e:Bk}{f:Tb}(i:CB E.q.pw.mode w' g d p x tt bk L E.q.s e f F (λq=>J q\/X q) E.oV jv id sv st)(m:e.nt=b.nt)(k:Touch (·=bk) w w'):O7 g d p x tt bk L {E with t:=f} w' X/\Touch (QE X) w w':=
 ⟨⟨e,F,J,jv,id,sv,st,i,a,by
   rw[m];exact n.keep k (λq o=>.inr (.inr (.inl o))) h.jg h.x1 (λr l c=>h.tb.fb (c▸.inl l)) (λc=>h.c1.1 c.symm) (λc=>h.c1.2 c.symm) h.A05 (λq=>.inl)⟩,k.mono (λq c=>c▸KY h.apart.1 h.c1.1 h.c1.2)⟩
def O7.below(h:O7 g d p x tt bk L E w X)(k:η w w'):O7 g d p x tt bk L E w' X:=O7.frames w w' X X h (mD k) (λ_=>.inl)
def Tj(E:Eg)(i:Int):P5 E i=U5 E.t.wt (E.on.map (·.id)) i:=by
 unfold P5 U5;cases E.on<;>rfl
end
def Ae8{y:Wr}(h:D5 y=jO):y.key.size<=16/\y.text.size<=40:=by
 unfold D5 at h;simp only[Bool.and_eq_true,decide_eq_true_eq]at h;exact⟨h.1.1,h.1.2⟩
def Jv(t:Tb):Prop:=∀a,a<8->(t.sets a).length<=16/\QY (t.sets a)/\∀b∈t.sets a,D5 b=jO
section
variable{g d p x tt bk L:Nat}{E:Eg}
def Ath:Steps (O7 g d p x tt bk L E) (O7 g d p x tt bk L (KA E).1) 26 #[AB g] (iJ #[gz iU (KA E).2.1,gz iU (KA E).2.2]):=by
 rintro o X⟨b,F,J,jv,id,sv,st,h,e,i⟩;cases c:MM E.t.wt with
 |none=>
  have a:KA E=(E,0,6):=by unfold KA;rw[c]
  rw[a];refine(uS h c).mono ?_;rintro a w'⟨rfl,f⟩;exact⟨rfl,O7.below ⟨b,F,J,jv,id,sv,st,h,e,i⟩ f,mD f⟩
 |some k=>
  have a:KA E=({E with t:=Zm E.t k E.oV},(k:Int),0):=by unfold KA;rw[c]
  rw[a];refine(Asl h c).mono ?_;rintro a w'⟨rfl,q,r,l,s,m,n⟩;exact⟨rfl,O7.book h e i m l n⟩
def qR{id:Int}(h:P5 E id=0):∃a:Nat,id=(a:Int)/\a<8/\E.t.wt.ops a=true:=by
 refine IY (t:=E.t.wt) ?_;unfold P5 at h;split at h
 ·assumption
 ·cases h
def Aa0(m:Jv E.t)(id:Int)(y:Wr)(v:y.key.size<=4294967296)(z:y.text.size<=4294967296){f:jT}{X:Nat->Prop}(l:O7 g d p x tt bk L E f X):
 Calls prog 53 #[AB g,id,OY y] f λa w'=>a=iO (gz iU (IP E id y).2)/\(O7 g d p x tt bk L (IP E id y).1 w' X/\Touch (QE X) f w'):=by
 have u:=l;obtain⟨b,F,J,jv,C,sv,st,h,o,k⟩:=l;by_cases c:P5 E id=0
 ·obtain⟨e,rfl,i,w⟩:=qR c;have a:IP E (e:Int) y=({E with t:=wrT E.t e y},(IV (E.t.sets e) y).2):=by unfold IP;rw[lg (by rw[c];simp)];rfl
  rw[a];refine(Aaz h k.onv (by rw[<-Tj];exact c) i w (m e i).1 (m e i).2.1 y v z).mono ?_;rintro a w'⟨rfl,A,B,q,r,s⟩;exact⟨rfl,O7.book h o k r q s⟩
 ·have a:IP E id y=(E,P5 E id):=by unfold IP;rw[kX c]
  rw[a,Tj];rw[Tj]at c;refine(Ae5 h k.onv c y).mono ?_;rintro a w'⟨rfl,n⟩;exact⟨rfl,u.below n,mD n⟩
def A06(c:Jv E.t)(id:Int)(a b:nG)(e:a.size<=4294967296)(f:b.size<=4294967296):Steps (O7 g d p x tt bk L E) (O7 g d p x tt bk L (IP E id ⟨a,b,jS⟩).1) 27 #[AB g,id,a,b] (gz iU (IP E id ⟨a,b,jS⟩).2):=
 λ_ _ h=>Apa (Aa0 c id ⟨a,b,jS⟩ e f h)
def A07(b:Jv E.t)(id:Int)(a:nG)(c:a.size<=4294967296):Steps (O7 g d p x tt bk L E) (O7 g d p x tt bk L (IP E id ⟨a,⟨#[]⟩,jO⟩).1) 28 #[AB g,id,a] (gz iU (IP E id ⟨a,⟨#[]⟩,jO⟩).2):=
 λ_ _ h=>Apb (Aa0 b id ⟨a,⟨#[]⟩,jO⟩ c (by show(0:Nat)<=_;omega) h)
def Ati(id:Int):Steps (O7 g d p x tt bk L E) (O7 g d p x tt bk L (MF E id).1) 33 #[AB g,id] (gz iU (MF E id).2):=by
 intro s X f;have o:=f;obtain⟨b,F,J,jv,w,sv,st,h,k,e⟩:=f;by_cases a:P5 E id=0
 ·obtain⟨i,rfl,q,r⟩:=qR a;have c:MF E (i:Int)=({E with t:=Gv E.t i},0):=by unfold MF;rw[lg (by rw[a];simp)];rfl
  rw[c];refine(Atd h e.onv (by rw[<-Tj];exact a) q r).mono ?_;rintro c w'⟨rfl,u,v,l,m,n⟩;exact⟨rfl,O7.book h k e m l n⟩
 ·have c:MF E id=(E,P5 E id):=by unfold MF;rw[kX a]
  rw[c,Tj];rw[Tj]at a;refine(Ae6 h e.onv a).ro ?_;exact⟨rfl,o,mP⟩
end
def ESv(F:Nat->Prop)(jb:Nat)(v:ku)(g bk nt:Nat)(k:Nat):Prop:=JG F jb v k\/k=g\/k=bk\/k=nt
section
variable{m0 m1:DJ}{w w':jT}{g d p x tt bk L:Nat}{s s2:St}{b:Bk}{t:Tb}{F F2 J:Nat->Prop}{oV:ni}{jv:ku}{id:Int}{sv v v2:ku}{st:ni}{jb:Nat}
def CB.dU(h:CB m0 w g d p x tt bk L s b t F J oV jv id sv st)(f:J jb)(l:∀q,v.ownBlock=jm q->J q)(r:jb≠g)(z:v.ownBlock≠jm g)(A:KH m1 w' x d p L s2 F2)(m:AQ (JG F jb v) (JG F2 jb v2) w w')(u:∀q,v2.ownBlock=jm q->q<w'):
 CB m1 w' g d p x tt bk L s2 b t F2 (λq=>J q\/v2.ownBlock=jm q) oV jv id sv st:=by
 have i:¬JG F jb v g:=λe=>e.elim h.fg (λe=>e.elim (λe=>r e.symm) z)
 have y:AQ (λk=>F k\/J k) (λk=>F2 k\/(J k\/v2.ownBlock=jm k)) w w':=⟨m.touch.mono (λk a=>a.imp (λh=>h) (λe=>e.elim (λe=>by rw[e];exact f) (l k))),λk a=>by
  have n:JG F2 jb v2 k->(F k\/J k)\/w<=k:=λa=>by
   rcases m.own k a with(c|c|c)|c
   ·exact .inl (.inl c)
   ·exact .inl (.inr (c▸f))
   ·exact .inl (.inr (l k c))
   ·exact .inr c
  rcases a with a|a|a
  ·exact n (.inl a)
  ·exact .inl (.inr a)
  ·exact n (.inr (.inr a))⟩
 refine⟨A,h.tb.moved y,.inl h.jg,λk a=>a.elim (λa=>Bc (h.jl k a) m.touch.size) (u k),h.box.touch m.touch i,λo=>?_,h.g1,h.g2,h.g3,h.g4,h.x1,h.x2,h.c1,h.c2,h.c3⟩;rcases m.own g (.inl o)with c|c
 ·exact i c
 ·have:=h.box.lt;omega
def Ae9{er:Int}{i:Nat}{A:Option Addr}{n c:Nat}(h:CB m0 w g d p x tt bk L s b t F J oV (.iface 162 (AB jb)) (i:Int) (fM A n c) st)(bb:J jb)(E:∀q,v.ownBlock=jm q->J q)(bR:jb≠g)(bV:v.ownBlock≠jm g)(hi:i<8)(bS:t.wt.ops i=jO)
 {y:List Wr}(bl:FP w (EF F J bk b.nt jb) (fM A n c) y)(hy:y.length<=100000)
 (bi:∀m,η w m->Calls prog 274 #[AB jb] m λo w'=>o=iO (iJ #[jO,er])/\∃F2,KH m1 w' x d p L s2 F2/\AQ (JG F jb v) (JG F2 jb v) m w'):
 Calls prog 32 #[AB g] w λo w'=>o=iO (iJ #[i,jO,er])/\
  ∃aL F2,aL.nt=b.nt/\CB m1 w' g d p x tt bk L s2 aL (if er=0 then Py (Gv t i) y st else Gv t i) F2 J (if er=0 then st else oV) .nilIface 0 (fM jw 0 0) 0/\(∀q,F2 q->F q\/w<=q\/q=jb\/v.ownBlock=jm q)/\Touch (ESv F jb v g bk b.nt) w w':=by
 have b4:=λbO m=>jJ bO (Φ jb) m
 have az:=Ac (Vh h);have ap:=Ac (Aoc h);have aM:=h.box.c5;have aR:=h.box.c6;have aW:=h.box.c7;have a0:=h.box.c8;unfold CZ at aM aR aW a0;obtain⟨m,bd,N,a7⟩:=E5 w 88 [.iface 162 (AB jb),i,fM A n c,st];have a8:=h.below N;have b0:=h.box.lt;have b1:=h.jl jb bb;have bm:∀q,v.ownBlock=jm q->q<w:=λq Q=>h.jl q (E q Q)
 have ba:=h.ix.sys.lt;have bY:=h.tb.book.lt;have b2:=h.tb.map.lt;obtain⟨bp,aq,Y,bL,bN⟩:=lM a7 N a8 (bl.below N) bd;have bE:Hid (¬JG F jb v w):=Ac (λbQ=>bQ.elim (λh=>absurd (ba _ h) O) (λh=>h.elim (λh=>O) (λh=>absurd (bm _ h) O)));have bj:=bi m N;have au:=Ac bj;clear h bi bd a7 N a8 ba bj bl bm;go_in;go_wp2_with fail;refine az.ro ?_;go_wp2_with fail;refine ap.ro ?_;go_wp2_with fail;rw[<-bN.out];refine au.mono ?_;rintro o B⟨rfl,F2,bo,P⟩;have V:=(Y.dU bb E bR bV bo P (λq Q=>Bc (Y.jl q (E q Q)) P.touch.size)).Ae7 (λq=>⟨λh=>h.elim (λh=>h) (E q),.inl⟩);have b3:=aq.size;have aa:=bp.touch P.touch bE;obtain⟨Z,U,T⟩:=l9 aa P V;have d3:=V.box.c3;unfold CZ at d3;have bs:=aa.c1;have aI:=Ac (λX(a:η B X)=>Zn (V.tb.below a) hi bS);have ah:¬w=bk:=O;have av:Hid (∀X,Touch (·=bk) B X->X.cell? (Δ g 3)=jm (AB tt)/\X.cell? (Δ w 1)=jm (gz iU (i:Int))):=Ac (λX a=>⟨(T.box.touch a T.g2).cell 3,(Z.touch a ah).cell 1⟩);clear bo P V aa au aM aR aW a0 az ap Y bp;go_wp2_with fail;go_region_held3(λw'=>w'.cell? (Δ g 3)=jm (AB tt)/\w'.cell? (Δ w 1)=jm (gz iU (i:Int)))
  (first|exact⟨d3,bs⟩|exact av _ ((mD (mX B)).trans ac (λ_=>.inl)))
  ((first|(go_at_call 64;refine(aI _ (mX B)).mono ?_;rintro o l⟨rfl,C,bW,ab,be,ac⟩)))
 all_goals(
  have R:Touch (·=bk) B l:=(mD (mX B)).trans ac (λ_=>.inl);have f:=T.book be ab R;have M:=Z.touch R ah;have I:=f.box.c3;have a1:=f.box.c4;have a2:=f.box.c5;have a3:=f.box.c6;have a4:=f.box.c7;have a5:=f.box.c8;have f4:=f.box.frozen 4;have f5:=f.box.frozen 5;have f6:=f.box.frozen 6;have f7:=f.box.frozen 7;have f8:=f.box.frozen 8;unfold CZ at I a1 a2 a3 a4 a5;have ae:=M.c1;have bq:=M.c2;have br:=M.c3;have bt:w≠g:=O;obtain⟨G,aG,al,H⟩:=lL f M R ab;have am:AQ (EF F J bk b.nt jb) (EF F2 J bk b.nt jb) m l:=by
   have m1:AQ (EF F J bk b.nt jb) (EF F2 J bk b.nt jb) m B:=⟨U.out.touch.mono (λa e=>e.imp (λh=>h) (λh=>h.elim (λh=>.inr (.inr (.inr h))) (λh=>.inl (E a h)))),λa e=>by
    rcases e with e|e
    ·rcases U.out.own a (.inl e)with(h|h|h)|h
     ·exact .inl (.inl h)
     ·exact .inl (.inr (.inr (.inr (.inr h))))
     ·exact .inl (.inr (.inl (E a h)))
     ·exact .inr h
    ·exact .inl (.inr e)⟩
   exact m1.trans ⟨al.mono (λa e=>.inr (.inr (.inl e))),λ_=>.inl⟩
  have a9:∀q,F2 q->F q\/w<=q\/q=jb\/v.ownBlock=jm q:=λq Q=>by
   rcases U.out.own q (.inl Q)with(h|h|h)|h
   ·exact .inl h
   ·exact .inr (.inr (.inl h))
   ·exact .inr (.inr (.inr h))
   ·exact .inr (.inl O)
  have a6:Touch (ESv F jb v g bk b.nt) w l:=((mD aq).trans (U.out.touch.mono (λ_=>.inl)) (λ_=>.inl)).trans (al.mono (λ_ h=>.inr (.inr (.inl h)))) (λ_=>.inl);obtain⟨bB,ar,aE⟩:=l9 am a9 a6;clear be ac R f M bW ab d3 bs T Z aI av am a9 a6;by_cases bh:er=0
  ·subst bh;go_wp2_with fail;obtain⟨k,r⟩:=ε (((((l.setCell (Δ g 5) .nilIface).setCell (Δ g 6) (gz iU 0)).setCell (Δ g 7) (fM jw 0 0)).setCell (Δ g 8) (gz iV 0)).setCell (Δ g 4) (gz iV (st.toNat:Int)));rw[<-r];have u:Touch (·=g) l k:=by rw[r];exact(((((Touch.refl (·=g) l).setCell (p:=Δ g 5) (.inl rfl) _).setCell (p:=Δ g 6) (.inl rfl) _).setCell (p:=Δ g 7) (.inl rfl) _).setCell (p:=Δ g 8) (.inl rfl) _).setCell (p:=Δ g 4) (.inl rfl) _
   have D:Cm k g 90 (CZ d p x tt st .nilIface 0 (fM jw 0 0) 0):=by rw[r];exact((((G.box.Be 5 _).Be 6 _).Be 7 _).Be 8 _).Be 4 _
   have K:=G.set u D;have z:=aG.touch u bt;have bc:=bB.trans (⟨u.mono (λa e=>.inr (.inl (by rw[e];exact K.jg))),λ_=>.inl⟩:AQ (EF F2 J bk b.nt jb) (EF F2 J bk b.nt jb) l k);have an:=bL.moved bc;have ao:=λX(a:η k X)=>Agw (K.tb.below a) st ((an.mono (F:=λa=>a=C.nt) (λa _ o=>by rw[H.out]at o;exact .inr (.inr (.inr (.inl o))))).below a) hy
   have ae:=z.c1;have bq:=z.c2;have br:=z.c3;have I:=D.c3;unfold CZ at I;have W:¬w=C.nt:=by rw[H.out];omega
   have aw:Hid (∀X,Touch (·=C.nt) k X->X.cell? (Δ g 3)=jm (AB tt)/\X.cell? (Δ w 1)=jm (gz iU (i:Int))/\X.cell? (Δ w 2)=jm (fM A n c)/\X.cell? (Δ w 3)=jm (gz iV (st.toNat:Int))):=Ac (λX a=>⟨(D.touch a K.g3).cell 3,(z.touch a W).cell 1,(z.touch a W).cell 2,(z.touch a W).cell 3⟩);obtain⟨bx,aD,bM⟩:=l9 K ao u;clear r u D K z bc an ao a1 a2 a3 a4 a5 f4 f5 f6 f7 f8 G aG;go_region_held3(λw'=>w'.cell? (Δ g 3)=jm (AB tt)/\w'.cell? (Δ w 1)=jm (gz iU (i:Int))/\w'.cell? (Δ w 2)=jm (fM A n c)/\w'.cell? (Δ w 3)=jm (gz iV (st.toNat:Int)))
   (first|exact⟨I,ae,bq,br⟩|exact aw _ ((mD (mX k)).trans ad (λ_=>.inl)))
   ((first|(go_at_call 67;refine(aD _ (mX k)).mono ?_;rintro o bX⟨rfl,bg,ad⟩)))
   all_goals(
    have S:Touch (·=C.nt) k bX:=(mD (mX k)).trans ad (λ_=>.inl);obtain⟨_,ae,_,_⟩:=aw _ S;have bA:=Ac (bx.Gn bg S);have bw:=Ac S;clear bg ad S I aD)
   all_goals(go_wp2)
   all_goals(refine bodyPost_ret (v:=iJ #[i,jO,gz iU 0]) (by simp[results,results32,go_sem]) rfl ?_)
   all_goals(
    refine⟨rfl,C,H,F2,?_,ar,(aE.trans (bM.mono (λa e=>.inr (.inl e))) (λ_=>.inl)).trans (bw.mono (λa e=>.inr (.inr (.inr (by rw[e,H.out]))))) (λ_=>.inl)⟩;exact bA)
  ·have t1:(er==0)=false:=beq_eq_false_iff_ne.2 bh;go_wp2_with fail;obtain⟨k,r⟩:=ε ((((l.setCell (Δ g 5) .nilIface).setCell (Δ g 6) (gz iU 0)).setCell (Δ g 7) (fM jw 0 0)).setCell (Δ g 8) (gz iV 0));rw[<-r];have u:Touch (·=g) l k:=by rw[r];exact((((Touch.refl (·=g) l).setCell (p:=Δ g 5) (.inl rfl) _).setCell (p:=Δ g 6) (.inl rfl) _).setCell (p:=Δ g 7) (.inl rfl) _).setCell (p:=Δ g 8) (.inl rfl) _
   have D:Cm k g 90 (CZ d p x tt oV .nilIface 0 (fM jw 0 0) 0):=by rw[r];exact(((G.box.Be 5 _).Be 6 _).Be 7 _).Be 8 _
   refine bodyPost_ret (v:=iJ #[i,jO,er]) (by simp[results,results32,go_sem]) rfl ?_;refine⟨rfl,C,H,F2,?_,ar,aE.trans (u.mono (λa e=>.inr (.inl e))) (λ_=>.inl)⟩;exact G.set u D)
end
structure Awy(L:Nat)(q:Ms)(t:Tb)(o:On):Prop where
 id:o.id<8
 op:t.wt.ops o.id=jO
 len:o.ps.length<=o.set.length
 few:o.set.length<=16
 right:∀y∈o.set,D5 y=jO
 ix:∀lf,q.pw=.up lf->∃X nJ,JQ X L q.s nJ
section
variable{w:jT}{pI jb x d p L:Nat}{q:Ms}{t:Tb}{nK:ni}{vs:ku}{F:Nat->Prop}{v:ku}{o:On}
def On.YD(h:o.ps.length<=o.set.length):o.ps=o.done.map Prod.snd:=by
 refine List.ext_getElem ?_ (λc a b=>?_)
 ·simp[On.done];omega
 ·simp[On.done]
def On.YE:∀a(h:a<o.done.length)(h2:a<o.set.length),o.done[a].1=o.set[a].key:=by
 intro a h h2;simp[On.done]
def Apd(q:Ms)(nK:ni)(o:On)(h:(NS q nK o).2.2.1=jS):(NS q nK o).2.2.2=0:=by
 unfold NS at h⊢;split
 ·split
  ·rfl
  ·rename_i a b;rw[a]at h;simp only[lg b]at h;cases h
 ·rename_i a;rw[a]at h;simp only at h;split at h<;>cases h
def Ape(h:FU q.pw.mode w pI jb x d p L q.s nK vs o.set o.ps jS 0 F v)(k:Awy L q t o):
 Calls prog 274 #[AB jb] w λa w'=>a=iO (iJ #[.bool (NS q nK o).2.2.1,gz iU (NS q nK o).2.2.2])/\
  ∃j i,pz w' x d p L (NS q nK o).1 j/\((NS q nK o).2.2.1=jS->FU (NS q nK o).1.pw.mode w' pI jb x d p L (NS q nK o).1.s nK vs o.set (NS q nK o).2.1 jS 0 j i)/\((NS q nK o).2.2.1=jO->i=v)/\AQ (JG F jb v) (JG j jb i) w w':=by
 have u:∀r∈o.set,r.key.size<=16:=λr B=>(Ae8 (k.right r B)).1
 have m:o.set.length<=100000:=Ω k.few;by_cases l:o.ps.length<o.set.length
 ·have n:o.set[o.ps.length]?=jm o.set[o.ps.length]:=Ag l;have f:=λz(f:η w z)=>Akk (h.below f).ix k.ix (h.below f).b o.set[o.ps.length] (k.right _ (List.getElem_mem l))
  unfold NS;rw[n];simp only;by_cases e:(writeM q nK o.set[o.ps.length]).2.2.2=0
  ·rw[kX e];rw[e]at f;refine(Aob h l m f).mono ?_;rintro a w'⟨rfl,j,i,c,g⟩;exact⟨rfl,j,i,c.ix,λ_=>c,(λa=>by cases a),g⟩
  ·rw[lg e];have y:=Ae1 q nK o.set[o.ps.length] e;rw[y.1,y.2]at f;refine(Ao1 e h k.len l m u f).mono ?_;rw[QD (On.YD k.len) On.YE];rintro a w'⟨rfl,j,c,g⟩;exact⟨rfl,j,v,c.ix,λa=>by(simp only at a;cases a),λ_=>rfl,g⟩
 ·have A:o.ps.length=o.set.length:=Ω k.len;have n:o.set[o.ps.length]?=none:=List.getElem?_eq_none O;unfold NS;rw[n];simp only;refine(Aav h A m u).mono ?_;rintro a w'⟨rfl,j,c,g⟩;unfold nO at c;by_cases e:(KG q 3 (DD q.s.ws 8 nK)).2=0
  ·rw[kX e]at c;rw[kX e,e];exact⟨rfl,j,v,c,λa=>by(simp only at a;cases a),λ_=>rfl,g⟩
  ·rw[lg e]at c;rw[lg e];rw[QD (On.YD k.len) On.YE]at c;exact⟨rfl,j,v,c,λa=>by(simp only at a;cases a),λ_=>rfl,g⟩
end
section
variable{m0:DJ}{w w':jT}{g d p x tt bk nt L:Nat}{s:St}{b:Bk}{t:Tb}{F J X:Nat->Prop}{oV:ni}{jv:ku}{id:Int}{sv vs v:ku}{st:ni}{jb pI:Nat}{o:On}{E:Eg}
def Aa2(h:CB m0 w g d p x tt bk L s b t F J oV jv id sv st)(a:OnV jv id jw):
 Calls prog 32 #[AB g] w λf w'=>f=iO (iJ #[gz iU 0,jO,gz iU 7])/\w=w':=by
 have e:=Ac (Vh h);have c:=Ac (VG h a);clear h a;go_in;go_wp2_with(first|(refine e.out.ro ?_)|(refine c.out.ro ?_));refine bodyPost_ret (v:=iJ #[gz iU 0,jO,gz iU 7]) (by simp[results,results32,go_sem]) rfl ?_;exact⟨rfl,rfl⟩
def Atg.below(h:Atg m0 w g bk nt x d p L s oV o F J X jb sv vs v pI)(k:η w w'):Atg m0 w' g bk nt x d p L s oV o F J X jb sv vs v pI:=
 ⟨h.cj.below k,h.jj,h.jv,h.xj,h.xv,h.gj,h.gv,h.vs.below k,h.sv.below k⟩
def Awz(k:∀o,E.on=jm o->Awy L E.q E.t o):Steps (O7 g d p x tt bk L E) (O7 g d p x tt bk L (Il E).1) 32 #[AB g] (iJ #[gz iU (Il E).2.1,.bool (Il E).2.2.1,gz iU (Il E).2.2.2]):=by
 intro H X M;have U:=M;obtain⟨b,F,J,jv,an,sv,st,h,n,D⟩:=M;cases w:E.on with
 |none=>
  have c:Il E=(E,0,jO,7):=by unfold Il;rw[w]
  rw[c];rw[w]at D;refine(Aa2 h D.1).ro ?_;exact⟨rfl,U,mP⟩
 |some o=>
  have C:=k o w;rw[w]at D;obtain⟨rfl,rfl,jb,vs,v,pI,rfl,e⟩:=D;obtain⟨ah,al,rfl⟩:=e.sv.slice;obtain⟨⟨z,R,ac,y⟩,a⟩:∃ad,NS E.q (E.oV+1) o=ad:=⟨_,rfl⟩;have A:=λm(r:η H m)=>Ape (e.below r).cj C
  rw[a]at A;simp only at A;have ae:∀{m w':jT}{j:Nat->Prop}{u:ku},AQ (JG F jb v) (JG j jb u) m w'->Touch (QE X) m w':=λl=>l.touch.mono (λq a=>by
   rcases a with a|a|a
   ·exact KY (n.nf q a) (λc=>h.ix.qQ.1 (c▸a)) (λc=>h.ix.qQ.2 (c▸a))
   ·exact KY (a▸e.xj) (λc=>e.cj.gj.1 (c.symm.trans a)) (λc=>e.cj.gj.2 (c.symm.trans a))
   ·have:=(e.cj.mlt q a).1;have:=e.cj.bt;exact KY (e.xv q a) O O)
  have aF:∀{w':jT}{j:Nat->Prop},(∀q,j q->F q\/H<=q\/q=jb\/v.ownBlock=jm q)->Apart X j g x:=λW=>⟨n.ng,n.nx,λq a i=>by
   rcases W q a with f|f|f|f
   ·exact n.nf q f i
   ·have:=h.jl q (.inr i);omega
   ·exact e.xj (f▸i)
   ·exact e.xv q f i,n.c1,n.c2⟩
  cases ac with
  |false=>
   have ab:y=0:=by have:=Apd E.q (E.oV+1) o (by rw[a]);rw[a]at this;exact this
   subst ab;have c:Il E=({E with q:=z,on:=jm {o with ps:=R}},(o.id:Int),jS,0):=by unfold Il;rw[w];simp only[a]
   rw[c];refine(Awd h (λw'=>O7 g d p x tt bk L {E with q:=z,on:=jm {o with ps:=R}} w' X/\Touch (QE X) H w') (G:=λq=>JG F jb v q) (λq a=>?_) (λm r=>(A m r).mono ?_) ⟨_,_,_,rfl⟩).mono ?_
   ·rcases a with a|a|a
    ·exact h.ix.sys.lt q a
    ·exact a▸e.cj.box.lt
    ·exact(e.cj.mlt q a).2
   ·rintro c w'⟨rfl,j,u,i,B,-,l⟩;have B:=B rfl;have I:=h.below r;have N:=e.below r;have T:=(I.dU (.inl e.jj) (λq a=>.inl (e.jv q a)) e.gj e.gv i l (λq a=>(B.mlt q a).2)).Ae7 (J':=λq=>(J q\/u.ownBlock=jm q)\/X q) (λq=>by constructor<;>(intro h;rcases h with(h|h)|h<;>simp[h]));have K:∀q,u.ownBlock=jm q->¬X q:=λq a i=>by
     rcases l.own q (.inr (.inr a))with(f|f|f)|f
     ·exact n.nf q f i
     ·exact e.xj (f▸i)
     ·exact e.xv q f i
     ·have:=I.jl q (.inr i);omega
    have Q:AQ (EF F (λq=>J q\/X q) bk b.nt jb) (EF j (λq=>(J q\/u.ownBlock=jm q)\/X q) bk b.nt jb) m w':=⟨l.touch.mono (λq a=>by
     rcases a with a|a|a
     ·exact .inl a
     ·exact .inr (.inr (.inr (.inr a)))
     ·exact .inr (.inl (.inl (e.jv q a)))),λq a=>by
     have P:JG j jb u q->EF F (λq=>J q\/X q) bk b.nt jb q\/m<=q:=λa=>by
      rcases l.own q a with(f|f|f)|f
      ·exact .inl (.inl f)
      ·exact .inl (.inr (.inr (.inr (.inr f))))
      ·exact .inl (.inr (.inl (.inl (e.jv q f))))
      ·exact .inr f
     rcases a with a|((a|a)|a)|a
     ·exact P (.inl a)
     ·exact .inl (.inr (.inl (.inl a)))
     ·exact P (.inr (.inr a))
     ·exact .inl (.inr (.inl (.inr a)))
     ·exact .inl (.inr (.inr a))⟩
    refine⟨rfl,⟨⟨b,j,λq=>J q\/u.ownBlock=jm q,_,_,_,_,T,aF (w':=w') (λq a=>?_),rfl,rfl,jb,vs,u,pI,rfl,⟨B,.inl e.jj,λq=>.inr,e.xj,K,e.gj,λc=>?_,N.vs.moved Q,N.sv.moved Q⟩⟩,?_⟩,l.touch⟩
    ·rcases l.own q (.inl a)with(f|f|f)|f
     ·exact .inl f
     ·exact .inr (.inr (.inl f))
     ·exact .inr (.inr (.inr f))
     ·exact .inr (.inl (AZ r.size f))
    ·rcases l.own g (.inr (.inr c))with(f|f|f)|f
     ·exact h.fg f
     ·exact e.gj f.symm
     ·exact e.gv f
     ·have:=I.box.lt;omega
    ·exact(mD r).trans (ae l) (λ_=>.inl)
   ·rintro c w'⟨rfl,Z⟩;exact⟨rfl,Z⟩
  |true=>
   have c:Il E=({q:=z,t:=if y=0 then Py (Gv E.t o.id) o.set (E.oV+1)else Gv E.t o.id,oV:=if y=0 then E.oV+1 else E.oV,on:=jw},(o.id:Int),jO,y):=by unfold Il;rw[w];simp only[a]
   rw[c];refine(Ae9 (m1:=z.pw.mode) (s2:=z.s) (er:=y) h (.inl e.jj) (λq a=>.inl (e.jv q a)) e.gj e.gv C.id C.op e.sv (Ω C.few) (λm r=>(A m r).mono ?_)).mono ?_
   ·rintro c w'⟨rfl,j,u,i,-,K,l⟩;rw[K rfl]at l;exact⟨rfl,j,i,l⟩
   ·rintro c w'⟨rfl,S,F2,am,V,Y,aa⟩;refine⟨rfl,⟨S,F2,J,_,_,_,_,V,aF (w':=w') Y,rfl,rfl,rfl,rfl⟩,aa.mono (λq a=>?_)⟩;rcases a with(a|a|a)|a|a|a
    ·exact KY (n.nf q a) (λc=>h.ix.qQ.1 (c▸a)) (λc=>h.ix.qQ.2 (c▸a))
    ·exact KY (a▸e.xj) (λc=>e.cj.gj.1 (c.symm.trans a)) (λc=>e.cj.gj.2 (c.symm.trans a))
    ·have:=(e.cj.mlt q a).1;have:=e.cj.bt;exact KY (e.xv q a) O O
    ·exact KY (a▸n.ng) (λc=>h.c3.1 (a.symm.trans c)) (λc=>h.c3.2 (a.symm.trans c))
    ·exact KY (a▸h.apart.1) (λc=>h.c1.1 (a.symm.trans c)) (λc=>h.c1.2 (a.symm.trans c))
    ·exact KY (a▸h.apart.2.1) (λc=>h.c2.1 (a.symm.trans c)) (λc=>h.c2.2 (a.symm.trans c))
end
section
variable{m0:DJ}{w w':jT}{g d p x tt bk L:Nat}{s:St}{b:Bk}{t:Tb}{F J:Nat->Prop}{oV:ni}{jv:ku}{id:Int}{sv:ku}{st:ni}
def Aa3(h:CB m0 w g d p x tt bk L s b t F J oV jv id sv st){o:Option Nat}(k:OnV jv id o){i:Int}(f:Ey t.wt i=jS\/o.isSome=jO):
 Calls prog 31 #[AB g,i] w λl w'=>l=iO (gz iU (if Ey t.wt i=jS then 2 else 11))/\w=w':=by
 have a:=Ac (aO h i);have e:=Ac (VG h k);clear h k;cases c:Ey t.wt i with
 |false=>
  rw[c,lg Bool.false_ne_true]at a;go_in;go_wp2_with(refine a.out.ro ?_);go_ret;exact⟨rfl,rfl⟩
 |true=>
  rw[c,kX rfl]at a;rw[f.resolve_left (by rw[c];simp)]at e;clear f;go_in;go_wp2_with(first|(refine a.out.ro ?_)|(refine e.out.ro ?_));go_ret;exact⟨rfl,rfl⟩
def Aa4(h:CB m0 w g d p x tt bk L s b t F J oV .nilIface id sv st){i:Nat}(hi:i<8)(M:t.wt.ops i=jO)(R:(t.sets i).length<=16){er:Int}
 (W:(t.sets i=[]/\er=0)\/(t.sets i≠[]/\JH t.Gn (t.sets i) (t.wt.ats i)=jO/\er=9)\/(t.sets i≠[]/\JH t.Gn (t.sets i) (t.wt.ats i)=jS/\60000<=oV.toNat/\er=10)):
 Calls prog 31 #[AB g,i] w λn w'=>n=iO er/\
  ∃C,C.nt=b.nt/\CB m0 w' g d p x tt bk L s C (Gv t i) F J oV .nilIface id sv st/\Touch (·=bk) w w':=by
 have B:=Ac (aO h (i:Int));rw[kX (Un hi M)]at B;obtain⟨D,v,u,P⟩:=lL (VG h (o:=jw) rfl) (Vd h.tb hi M O) (λc(k:η w c)=>jr (h.tb.below k) hi M O) (λc(k:η w c)=>Zn (h.tb.below k) hi M);have m:Hid (∀c,η w c->Cm c g 90 (CZ d p x tt oV .nilIface id sv st)):=Ac (λc k=>h.box.ξ k);have N:Hid (∀c E,η w c->∀C,C.nt=b.nt->Hm E (λk=>F k\/J k) tt bk C (Gv t i)->Touch (·=bk) c E->CB m0 E g d p x tt bk L s C (Gv t i) F J oV .nilIface id sv st/\Touch (·=bk) w E):=Ac (λc E k C ae ad Y=>⟨(h.below k).book ad ae Y,(mD k).trans Y (λ_=>.inl)⟩);obtain⟨l,S⟩:=ε (t.sets i);rw[<-S]at v u W R;have al:=Ac R;have am:=Ac S;clear h S R;rcases W with⟨rfl,rfl⟩|⟨H,G,rfl⟩|⟨H,G,ac,rfl⟩
 ·simp only[CV]at v;clear u;go_in;go_wp2_with(first|(refine B.out.ro ?_)|(refine D.out.ro ?_;have a:=(m _  mZ).cell 3;unfold CZ at a;simp only[Af,Ai]at a)|(refine v.mono ?_;rintro n aa⟨Z,rfl,z,e⟩;obtain⟨T,U,K,_,_⟩:=C9 z;subst K;have q:=Ac e;replace a:=(m _ e).cell 3;unfold CZ at a;simp only[Af,Ai]at a;clear z e v B D)|(refine(P _ q).mono ?_;rintro n ab⟨rfl,y,X,A,f,I⟩));go_ret;exact⟨rfl,y,A,N _ _ q y A f I⟩
 ·have Q:0<l.length:=QI.2 H;have t5:((l.length:Int)==0)=false:=beq_eq_false_iff_ne.2 O;rw[G]at u;clear H Q G;go_in;go_wp2_with(first|(refine B.out.ro ?_)|(refine D.out.ro ?_;have a:=(m _  mZ).cell 3;unfold CZ at a;simp only[Af,Ai]at a)|(refine v.mono ?_;rintro n aa⟨Z,rfl,z,e⟩;obtain⟨T,U,K,_,_⟩:=C9 z;subst K;have q:=Ac e;replace a:=(m _ e).cell 3;unfold CZ at a;simp only[Af,Ai]at a;clear z e v B D)|(refine(u _ q).mono ?_;rintro n ab⟨rfl,f⟩;have r:=Ac (τ q.out f);replace a:=(m _ r).cell 3;unfold CZ at a;simp only[Af,Ai]at a;clear f u)|(refine(P _ r).mono ?_;rintro n ah⟨rfl,y,X,A,f,I⟩));go_ret;exact⟨rfl,y,A,N _ _ r y A f I⟩
 ·have Q:0<l.length:=QI.2 H;have t5:((l.length:Int)==0)=false:=beq_eq_false_iff_ne.2 O;have t1:=dT ((60000:Int)<=(oV.toNat:Int));rw[G]at u;clear H Q G ac;go_in;go_wp2_with(first|(refine B.out.ro ?_)|(refine D.out.ro ?_;have a:=(m _  mZ).cell 3;unfold CZ at a;simp only[Af,Ai]at a)|(refine v.mono ?_;rintro n aa⟨Z,rfl,z,e⟩;obtain⟨T,U,K,_,_⟩:=C9 z;subst K;have q:=Ac e;replace a:=(m _ e).cell 3;unfold CZ at a;simp only[Af,Ai]at a;clear z e v B D)|(refine(u _ q).mono ?_;rintro n ab⟨rfl,f⟩;have r:=Ac (τ q.out f);replace a:=(m _ r).cell 3;have V:=(m _ r).cell 4;unfold CZ at a V;simp only[Af,Ai]at a V;clear f u)|(refine(P _ r).mono ?_;rintro n ah⟨rfl,y,X,A,f,I⟩));go_ret;exact⟨rfl,y,A,N _ _ r y A f I⟩
def Aa5{lm:Mode}(h:CB (.up lm) w g d p x tt bk L s b t F J oV .nilIface id sv st){i:Nat}(hi:i<8)(Y:t.wt.ops i=jO){l:List Wr}(C:t.sets i=l)(a3:0<l.length)(ar:∀be∈l,D5 be=jO)(au:QY l)(aq:l.length<=16)(an:JH t.Gn l (t.wt.ats i)=jS)
 (h1:oV.toNat<60000)(a4:(s.ws 8).toNat<=oV.toNat):
 Calls prog 31 #[AB g,i] w λm w'=>m=iO (gz iU 0)/\
  ∃jb vs av,w.heap.size<=jb/\CB (.up lm) w' g d p x tt bk L s b t F (λa=>J a\/a=jb) oV (.iface 162 (AB jb)) (i:Int) av (oV+1)/\Wh w' jb x d p (oV+1) vs (fM jw 0 0) jS 0 F/\
   FP w' (EF F J bk b.nt jb) vs l/\FP w' (EF F J bk b.nt jb) av l/\Touch (·=g) w w':=by
 have D:(oV+1).toNat=oV.toNat+1:=by rw[UInt64.toNat_add];show(oV.toNat+1)%18446744073709551616=_;omega
 have bm:IntKind.u64.wrap ((oV.toNat:Int)+1)=((oV+1).toNat:Int):=by rw[D,IntKind.wrap_u64];omega
 have aG:Hid (((oV.toNat:Int)+1)%18446744073709551616=((oV+1).toNat:Int)):=Ac (by rw[D];omega);have ao:Ey t.wt (i:Int)=true:=by
  unfold Ey;simp only[Bool.and_eq_true,decide_eq_true_eq];exact⟨O,O,Y⟩
 have N:=Ac (aO h (i:Int));rw[kX ao]at N;have ab:=Ac (Awc h);have P:=Ac (Vd h.tb hi Y (by rw[C];omega));rw[C]at P;have M:=Ac (λk(a:η w k)=>jr (h.tb.below a) hi Y (by rw[C];omega));rw[C,an]at M;have ac:=Ac (λk(a:η w k){v:ku}(bc:FP k (λ_=>False) v l)=>vO (x:=x) (h.ix.below a).sys bc ar au aq (nK:=oV+1) (by rw[D];omega) (by rw[D];omega));have e:=Ac h;have Q:Hid (∀k,η w k->Cm k g 90 (CZ d p x tt oV .nilIface id sv st)):=Ac (λk a=>h.box.ξ a);have B:=h.box.c3;unfold CZ at B;have t1:=dF ((60000:Int)<=(oV.toNat:Int));have o:Hid (∀a,F a\/J a\/a=bk\/a=b.nt->a<w.heap.size):=Ac (λa c=>by
  rcases c with c|c|rfl|rfl
  ·exact h.ix.sys.lt a c
  ·exact h.jl a c
  ·exact h.tb.book.lt
  ·exact h.tb.map.lt)
 have t5:((l.length:Int)==0)=false:=beq_eq_false_iff_ne.2 O;clear h C ar au an h1 a4 ao D a3 aq;go_in;go_wp2_with(first|(refine N.out.ro ?_)|(refine ab.out.ro ?_)|(refine P.out.mono ?_;rintro m aw⟨bq,rfl,S,U⟩;obtain⟨z,A,bb,_,_⟩:=C9 S;subst bb;have ad:=Ac S;have H:=Ac U;replace B:=(Q _ U).cell 3;unfold CZ at B;simp only[Af,Ai]at B;clear S U P N ab));refine(M _ H).mono ?_;rintro m r⟨rfl,V⟩;have aa:=Ac V;have I:=Ac (τ H.out V);have q:=Q _ I;have d0:=q.c0;have d1:=q.c1;have d2:=q.c2;have d4:=q.c4;unfold CZ at d0 d1 d2 d4;have aE:Hid (∀k,η r k->k.cell? (Φ g)=jm (AB d)/\k.cell? (Δ g 1)=jm (AB p)/\k.cell? (Δ g 2)=jm (AB x)/\k.cell? (Δ g 4)=jm (gz iV (oV.toNat:Int))):=Ac (λk a=>
  ⟨(q.ξ a).cell 0,(q.ξ a).cell 1,(q.ξ a).cell 2,(q.ξ a).cell 4⟩)
 have aI:=Ac (ac _ (τ I.out (mX r)) (v:=fM z l.length A) (((Yq ad rfl (λ_ _ _ X=>X):FP aw (λ_=>False) (fM z l.length A) l).below aa).below (mX r)));clear V q B M ac;go_wp2_with fail;go_region_held3(λw'=>w'.cell? (Φ g)=jm (AB d)/\w'.cell? (Δ g 1)=jm (AB p)/\w'.cell? (Δ g 2)=jm (AB x)/\w'.cell? (Δ g 4)=jm (gz iV (oV.toNat:Int)))
  (first|exact⟨d0,d1,d2,d4⟩|exact aE _ ((mX r).trans W))
  ((first|(go_at_call 66;refine aI.mono ?_;rintro m y⟨W,jb,vs,rfl,ap,ah,am⟩)))
 all_goals(
  have G:η r y:=(mX r).trans W;have R:η w y:=τ I.out G;have Z:r.heap.size<=jb:=ap;have n:=Q _ R;have aW:=n.c5;have a0:=n.c6;have a1:=n.c7;have a2:=n.c8;have f5:=n.frozen 5;have f6:=n.frozen 6;have f7:=n.frozen 7;have f8:=n.frozen 8;unfold CZ at aW a0 a1 a2;obtain⟨K,az,ae,aL,aD,aM⟩:=lN R G ah am Z n;clear W G R ah am ap Z n d0 d1 d2 d4;go_wp2_with fail;go_ret)
 all_goals(
  have bp:=aa.size;have bo:=H.size;have Z:=aD.out;have bh:=e.box.lt;obtain⟨k,T⟩:=ε ((((y.setCell (Δ g 5) (.iface 162 (AB jb))).setCell (Δ g 6) (gz iU (i:Int))).setCell (Δ g 7) (fM z l.length A)).setCell (Δ g 8) (gz iV ((oV+1).toNat:Int)));have u:Touch (·=g) y k:=by rw[T];exact((((Touch.refl (·=g) y).setCell (p:=Δ g 5) (.inl rfl) _).setCell (p:=Δ g 6) (.inl rfl) _).setCell (p:=Δ g 7) (.inl rfl) _).setCell (p:=Δ g 8) (.inl rfl) _
  have aR:Cm k g 90 (CZ d p x tt oV (.iface 162 (AB jb)) (i:Int) (fM z l.length A) (oV+1)):=by rw[T];exact(((aM.Be 5 _).Be 6 _).Be 7 _).Be 8 _
  have E:=e.below K;have al:AQ (EF F J bk b.nt jb) (EF F J bk b.nt jb) y k:=⟨u.mono (λa m=>.inr (.inl (by rw[m];exact e.jg))),λ_=>.inl⟩;have ba:FP aw (EF F J bk b.nt jb) (fM z l.length A) l:=Yq ad rfl (λa c a9 f=>by
   rcases f with f|f|f|f|f
   ·exact absurd (o a (.inl f)) O
   ·exact absurd (o a (.inr (.inl f))) O
   ·exact absurd (o a (.inr (.inr (.inl f)))) O
   ·exact absurd (o a (.inr (.inr (.inr f)))) O
   ·omega)
  have bd:FP y (EF F J bk b.nt jb) vs l:=aL _ (λa c a9 f=>by
   have bi:r.heap.size<=a:=c;rcases f with f|f|f|f|f
   ·exact absurd (o a (.inl f)) O
   ·exact absurd (o a (.inr (.inl f))) O
   ·exact absurd (o a (.inr (.inr (.inl f)))) O
   ·exact absurd (o a (.inr (.inr (.inr f)))) O
   ·omega)
  have a7:¬F jb:=λX=>absurd (o jb (.inl X)) O
  have a5:AQ (λa=>F a\/J a) (λa=>F a\/(J a\/a=jb)) w k:=⟨(mD K).trans (u.mono (λa m=>Or.inr (by rw[m];exact e.jg))) (λ_=>.inl),λa c=>by
   rcases c with c|c|c
   ·exact .inl (.inl c)
   ·exact .inl (.inr c)
   ·exact .inr (by rw[c];omega)⟩
  have a8:jb≠g:=O;rw[aG.out,<-T];refine⟨rfl,jb,vs,fM z l.length A,O,⟨⟨E.ix.sys.keep u (λbg a6 m=>e.fg (m▸a6)) (λm=>e.c3.1 m.symm) (λm=>e.c3.2 m.symm),E.ix.box.touch u (λm=>e.g4 m.symm),E.ix.out⟩,e.tb.moved a5,.inl e.jg,?_,aR,e.fg,e.g1,e.g2,e.g3,e.g4,e.x1,e.x2,e.c1,e.c2,e.c3⟩,⟨ae.touch u a8,a7⟩,bd.moved al,((ba.below aa).below az).moved al,(mD K).trans u (λ_=>.inl)⟩;intro a c;have bl:=u.size;have bj:=ae.lt;rcases c with c|c
  ·have:=e.jl a c;omega
  ·rw[c];omega)
end
