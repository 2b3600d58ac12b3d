import Derived.Sort.OwnSortedInts
import Derived.Test.YtfmkofmaabgbkaaGreatDoorJ31
set_option linter.defProp false
set_option maxHeartbeats 32000000
set_option maxRecDepth 100000
open List renaming map_append->CE,length_mergeSort->xh,length_nil->Dx,getElem?_eq_some_iff->Cb,length_append->AP,take_length->SE,getElem?_eq_getElem->Ah,getElem?_map->DJ,replicate->BB
open Array renaming getElem?_eq_some_iff->AA
open Go.Lib renaming hid->Ac
open Nat renaming le_refl->Ae,zero_le->BA
open Go.Value renaming slice->fD,int->fP,string->fQ,tuple->gJ,pointer->gV
open Go.Ending renaming returned->gY
open Go.IntKind renaming i64->gZ,u64->ig
open Option renaming some->iC
namespace Go.Proofs.YtfmkofmaabgbkaaGreatDoor
open Go.Proofs.Tryz
section
open Go.RowKit Go.Maps Go.Shelf
def iF(l:List Int):List Value:=l.map (Value.int gZ)
def An8(a b:List Int):iF (a++b)=iF a++iF b:=CE
def Uz(l:List Int):(ET l).length=l.length:=xh _
def An9(l:List Int):∀a∈iF l,a.oneCell'=true:=λa b=>by
 obtain⟨c,_,rfl⟩:=List.mem_map.1 b;rfl
def Aki{w:World}{b:Nat}{v:Value}(a:List Int)(h:w.ownsRow b 3 1 v a.length (iF a))(l:b<=w.heap.size)(r:a.length<=1000000000):
 Calls prog 118 #[v] w λc w'=>c=gY (gJ #[])/\w'.ownsRow b 3 1 v a.length (iF (ET a))/\Below b w w':=by
 rcases h.2 with⟨rfl,j⟩|⟨i,g,q,rfl,k,d,p,m,n,f⟩
 ·have o:a=[]:=List.eq_nil_of_length_eq_zero j;subst o;refine(AnyM.slices_Sort_int_none Tryz.sortA none 0 w).mono ?_;rintro c w'⟨rfl,rfl⟩;exact⟨rfl,by simpa[ET,iF]using h,Below.refl _ _⟩
 ·rw[Nat.mul_one]at f;refine(AnyM.slices_Sort_int Tryz.sortA i 0 g a w (holds_of_blockI d f) (AA.1 d).1 O1).mono ?_;rintro c w'⟨rfl,t,u,rfl⟩;refine⟨rfl,ownsRow_sortedI (xh _) k d p m n,?_⟩;exact(Below.refl _ _).grown (grownBy_sortedI _) l (λs e=>by injection e with e;omega)
def Akj{w:World}{A:Option Addr}{c:Nat}(l:List Int)(b:Rd w A (l.length*1) (iF l))(f:l.length<=100000):
 Calls prog 117 #[fD A l.length c] w λa w'=>∃g,a=gY g/\w'.ownsRow w.heap.size 3 1 g l.length (iF l)/\η w w':=by
 have s:=λm=>Lib.run_eql_slice_nil (P:=prog) m 42 3 A l.length c 0 0 underlying42
 cases A with
 |none=>
  have r:l=[]:=by
   by_cases a:l=[]
   ·exact a
   ·obtain⟨t,v,o,_⟩:=b.2 (Ω (List.length_pos_iff.2 a));cases o
  subst r;simp only[Dx]at s;clear b;go_enter func117,ntmps117
  go_wp2_with fail
  go_ret;exact⟨_,rfl,⟨by simp[iF],.inl ⟨rfl,rfl⟩⟩,Below.refl _ _⟩
 |some n=>
  have k:=Ac b;have i:=Ac f;have e:η w (w.alloc (.cells #[] 3)):=(Below.refl _ _).alloc (Ae _) _;have d:=Ac e;have j:Hid ((w.alloc (.cells #[] 3)).ownsRow w.heap.size 3 1 (fD (iC (Φ w.heap.size)) 0 0) 0 []):=Ac ⟨rfl,.inr ⟨w.heap.size,0,#[],rfl,Ae _,heap_alloc_new _ _,Ae _,by decide,rfl,rfl⟩⟩;clear e b f;go_enter func117,ntmps117
  go_wp2_with(at_builtin;refine Gm rfl (.tmp 5) (.tmp 6) 42 rfl Tryz.X9 U w.heap.size (fD (iC (Φ w.heap.size)) 0 0) 0 [] rfl j.out (iC n) l.length c (iF l) rfl (Rd.below k.out d.out) (An9 l) (Ω i.out) U Θ ?_;intro x w' q p u)
  go_ret;exact⟨_,rfl,by simpa using q,d.trans p⟩
end
section
open Go.RowKit
def own_at{w:World}{f n k c:Nat}{A:Option Addr}{e:TypeId}{xs:List Value}(h:w.ownsRow f e k (fD A n c) n xs):∀d,A=iC d->f<=d.block/\d.block<w.heap.size:=λd a=>by
 rcases h.2 with⟨b,_⟩|⟨m,j,l,b,g,i,_⟩
 ·simp only[Value.slice.injEq]at b;rw[b.1]at a;cases a
 ·simp only[Value.slice.injEq]at b;rw[b.1]at a;injection a with a
  rw[<-a];exact⟨g,(AA.1 i).1⟩
def own_blk{w:World}{d n k:Nat}{v:Value}{e:TypeId}{xs:List Value}(h:w.ownsRow d e k v n xs):∀b,v.ownBlock=iC b->d<=b/\b<w.heap.size:=λb a=>by
 rcases h.2 with⟨c,_⟩|⟨l,i,j,c,f,g,_⟩
 ·rw[c]at a;cases a
 ·rw[c]at a;injection a with a
  rw[<-a];exact⟨f,(AA.1 g).1⟩
def Rd.kept{w w':World}{A:Option Addr}{n:Nat}{xs:List Value}{r:Option Nat}(h:Rd w A n xs)(k:Kept w w' r)(j:∀a,A=iC a->r≠iC a.block):Rd w' A n xs:=by
 refine⟨h.1,λi=>?_⟩;obtain⟨b,m,c,d,f⟩:=h.2 i;exact⟨b,m,c,Nat.lt_of_lt_of_le d k.1,λl g=>(World.cell?_of_block (w:=w) (k.2 b d (λe=>j _ c e.symm))).trans (f l g)⟩
def Agf{l:List Int}(h:IW l=true){i:Nat}{a b:Int}(f:l[i]?=iC a)(g:l[i+1]?=iC b):a≠b:=by
 obtain⟨j,c⟩:=Cb.1 f;obtain⟨e,d⟩:=Cb.1 g;have:=iP h i e
 rwa [c,d]at this
def pF{w:World}{A:Option Addr}{l:List (List UInt8×UInt64)}(h:Rd w A (l.length*2) ((l.map itV).flatten))(k:Nat)(j:k<l.length):∃a c,A=iC (Δ a c)/\a<w.heap.size/\w.cell? (Δ a (c+k*2))=iC (fQ ⟨l[k].1.toArray⟩)/\w.cell? (Δ a (c+k*2+1))=iC (fP ig (l[k].2.toNat:Int)):=by
 obtain⟨a,c,e,f,g⟩:=h.2 O1;have d:∀b,b<2->w.cell? (Δ a (c+k*2+b))=(itV l[k])[b]?:=λb i=>by
  rw[Nat.add_assoc,g (k*2+b) O1];exact flat_get itV 2 (λ_=>rfl) l k b j i
 exact⟨a,c,e,f,d 0 U,d 1 U⟩
section
variable{w w':World}{x d p L:Nat}{s:St}{F:Nat->Prop}
def Agg(s:St)(w:World)(e:Ending)(w':World):Prop:=
 η w w'/\match Vf s with
  |none=>e=gY (gJ #[fD none 0 0,fP gZ 5])
  |some a=>∃b,e=gY (gJ #[b,fP gZ 0])/\w'.ownsRow w.heap.size 3 1 b a.length (iF a)
def Aa6(h:Ix w x d p L s F){m:List (List UInt8×UInt64)}{g:List Int}(aW:DW s=iC (m,g))(aL:∀j e,j<=m.length->Hq s (m.take j) (ET g)=iC e->e.length<=100000):
 Calls prog 74 #[ptr0 d,ptr0 p,ptr0 x] w (Agg s w):=by
 have b2:Vf s=match Hq s m (ET g)with|none=>none|some b=>if IW (ET b)=true then iC (ET b)else none:=by unfold Vf;rw[aW];rfl
 have cr:=h.sys.pos.1;have t0:(((L*64:Nat):Int)==0)=false:=ζ O1;have aX:=h.sys.size;generalize L*64=c8 at aX t0;have bm:=Ac aX;have bc:=Ac (YF h);have bq:=Ac h;have bk:=Ac aW;have ap:=Ac aL;have aq:=Ac b2;clear aX h aW aL b2 cr;go_enter func74,ntmps74
 go_wp2_with fail
 refine bm.mono ?_;rintro l dd⟨rfl,rfl⟩;clear bm
 go_wp2_with fail
 refine bc.mono ?_;rintro l de⟨aD,bX⟩;rw[bk.out]at bX;obtain⟨c9,rfl,bR,cB⟩:=bX;obtain⟨cU,co,rfl,ct,aV⟩:=own_rowk bR;rw[show(Ao7 g).map (Value.int gZ)=iF (ET g)from rfl]at aV;have cf:=Ac aD;have bg:=Ac aV;have a5:=Ac (Ur (bq.below aD));clear bc bR aD aV ct
 go_wp2_with fail
 refine a5.mono ?_;rintro l y⟨aE,bY⟩;rw[bk.out]at bY;obtain⟨da,rfl,bS,cC⟩:=bY;obtain⟨cV,cW,rfl,cv,b0⟩:=own_rowk bS;have S:=Ac (τ cf.out aE);have ci:=Ac b0;have an:=Rd.below bg.out aE;have bb:Hid ((ET g).length<=100000):=Ac (ap 0 _ (BA _) rfl);rw[show g.length=(ET g).length from(Uz g).symm]at an;rw[show g.length=(ET g).length from(Uz g).symm];have bx:=Ac (Akj (c:=co) (ET g) an bb.out);clear a5 bS aE b0 cv an bg
 go_wp2_with fail
 refine bx.mono ?_;rintro l dg⟨db,rfl,bV,bG⟩;have ba:=Ac bG;have bC:=Ac bV;clear bx bG bV
 go_wp2_with fail
 go_loopw [11,50](λP i wr=>∃(j:Nat)(e:List Int),j<=m.length/\i=fP gZ (j:Nat)/\Hq s (m.take j) (ET g)=iC e/\e.length<=100000/\wr.ownsRow y.heap.size 3 1 P e.length (iF e)/\η y wr)(λ_ i _=>m.length-(intOf i).toNat)
 case atStart=>exact⟨0,ET g,BA _,rfl,rfl,bb.out,bC.out,ba.out⟩
 case round=>
  obtain⟨j,e,c2,rfl,bE,cs,M,I⟩:=hrel;have HOr:=Ac M;have u:=Ac I;have R:=Ac bE;clear M I bC ba bE;by_cases v:j<m.length
  ·obtain⟨D,ca,rfl,bL,cc,N⟩:=pF (Rd.below ci.out u.out) j v;obtain⟨c6,cF,cG⟩:=ltT v;have c4:=wk1 j O1;have r:=Ac (yc v R.out);have cg:=Ac (λe=>ap (j+1) e v);obtain⟨⟨cK,a3⟩,bN⟩:∃cI,cI=m[j]:=⟨_,rfl⟩;rw[<-bN]at cc N r;simp only at cc N r;obtain⟨dh,b5,aF,-⟩:=newB wr 115 [fQ ⟨cK.toArray⟩,fP ig (a3.toNat:Int)];have A:=Ac (τ u.out aF);have X:=Ac (Ew HOr.out aF);have a6:=τ S.out A.out;have aw:=Ac (Uj (bq.below a6).sys a3);have cJ:=Ac b5;clear bN b5 aF a6 HOr u
   go_wp2_with fail
   rw[<-cJ.out];refine aw.mono ?_;rintro l cM⟨J,ab⟩;cases Z:IE s a3 with
   |none=>
    rw[Z]at ab;have az:Hid (Vf s=none):=Ac (by
     have o:=r.out;rw[Z]at o;rw[aq.out,yf v o])
    have W:=Ac (τ S.out (τ A.out J));subst ab;clear aw J X A r
    go_wp2_with fail
    go_ret2;refine⟨W.out,?_⟩;rw[az.out];rfl
   |some f=>
    rw[Z]at ab r;obtain⟨a4,dc,rfl,aR⟩:=ab;have bd:Hid ((e++f.map (·.off)).length<=100000):=Ac (cg _ r.out);clear Z;have aL:=a4.few;have be:=own_blk X.out;obtain⟨am,cX,rfl,cw,cb⟩:=Zl aR;have H:∀k,am=iC k->k.block<cM.heap.size/\u11.ownBlock≠iC k.block:=λk n=>by
     obtain⟨o,G⟩:=own_at aR k n;exact⟨G,λl=>Ω ((be _ l).2)⟩
    have a9:=Ac H;have bh:=Ac cb;have W:=Ac (τ A.out J);have bA:=Ac (Ew X.out J);clear aw aR J cb H be a4 X A cw
    go_wp2_with fail
    go_loopw [11,67](λP i wr=>∃a:Nat,a<=f.length/\i=fP gZ (a:Nat)/\wr.ownsRow y.heap.size 3 1 P (e++(f.take a).map (·.off)).length (iF (e++(f.take a).map (·.off)))/\η y wr/\LkR wr am f/\∀k,am=iC k->k.block<wr.heap.size/\P.ownBlock≠iC k.block)(λ_ i _=>f.length-(intOf i).toNat)
    case atStart=>exact⟨0,BA _,rfl,by simpa using bA.out,W.out,bh.out,a9.out⟩
    case round=>
     obtain⟨a,c0,rfl,M,I,b1,H⟩:=hrel;have E:=Ac M;have t:=Ac I;have C:=Ac b1;have a7:=Ac H;clear M I b1 H a9 bA W bh;by_cases q:a<f.length
     ·obtain⟨cH,a0,a1⟩:=ltT q;have cE:=wk1 a O1;obtain⟨D,ca,rfl,bL,cR,ah,al,cS,cT⟩:=C.at a q;have bo:Hid (e++(f.take (a+1)).map (·.off)=e++(f.take a).map (·.off)++[f[a].off]):=Ac (by
       rw[List.take_succ_eq_append_getElem q,CE,List.append_assoc];rfl)
      have c3:(e++(f.take a).map (·.off)).length<=100000:=by
       have:=bd.out;simp only[AP,List.length_map,List.length_take]at this⊢;omega
      generalize f[a]=cL at*;obtain⟨a2,b8,b7,b6,b9⟩:=cL;simp only at cR ah al cS cT bo;generalize(e++(f.take a).map (·.off))=bB at*;obtain⟨cP,aZ,K,-⟩:=newB wr 200 [fP gZ a2,fP ig (b8.toNat:Int),fP ig (b7.toNat:Int),.bool b6,fQ b9];have ao:=Ac (τ t.out K);have T:=Ac (Ew E.out K);have bi:=Ac (C.below K);have aM:=(a7 _ rfl).2;simp only at aM;have a8:Hid (D<cP.heap.size):=Ac (Ω K.size);have ae:=Ac aM;rw[aZ]at T ao;have ck:=Ac aZ;clear aZ K aM E t C a7
      go_wp2_with(at_builtin;refine BC rfl (.tmp 71) (.tmp 74) 42 rfl Tryz.X9 (wr.alloc (.cells #[fP gZ a2,fP ig (b8.toNat:Int),fP ig (b7.toNat:Int),.bool b6,fQ b9] 200)) y.heap.size u11 bB.length (iF bB) [fP gZ a2] rfl (by exact T.out) rfl _ 1 rfl Θ rfl U (by intro P b4;simp at b4;subst b4;rfl) O1 U (by exact ao.size) ?_;intro cq cY cQ bw bt Y av)
      have cm:=Ac bw;have cl:=Ac (ao.trans bt);rw[<-ck.out]at Y av;have cj:=Ac (Rd.kept bi.out Y (λk n=>by injection n with n;rw[<-n];exact ae.out));have ce:Hid (D<cQ.heap.size/\iC cq≠iC D):=Ac (by
       refine⟨Ψ Y.1 a8.out,λl=>?_⟩;injection l with l
       rcases av with h|h
       ·exact ae (by rw[h,l])
       ·have:=a8.out;omega)
      clear bw bt Y av bi
      go_wp2_with fail
      go_roundw
      case rel=>exact⟨a+1,O1,by go_num,by rw[bo.out,AP,An8];exact cm.out,cl.out,cj.out,λk n=>by injection n with n;subst n;exact ce.out⟩
      case measure=>simp[intOf];omega
     ·obtain⟨a0,a1⟩:=qA q;have cz:a=f.length:=O1;subst cz;have T:Hid (wr.ownsRow y.heap.size 3 1 u11 (e++f.map (·.off)).length (iF (e++f.map (·.off)))):=Ac (by have:=E.out;rwa [SE]at this);clear E
      go_wp2_with fail
      go_roundw
      case rel=>exact⟨j+1,_,O1,by go_num,r.out,bd.out,T.out,t.out⟩
      case measure=>simp[intOf];omega
  ·obtain⟨cF,cG⟩:=qA v;have cA:j=m.length:=O1;subst cA;obtain⟨b,bO⟩:=ε e;rw[<-bO]at HOr cs R;have bj:Hid (Vf s=if IW (ET b)=true then iC (ET b)else none):=Ac (by
    have o:=R.out;rw[SE]at o;rw[aq.out,o])
   have bl:=Ac (Aki b HOr.out u.size O1);clear R bO aq ap
   go_wp2_with fail
   refine bl.mono ?_;rintro l cN⟨rfl,aa,bH⟩;obtain⟨cd,cp,rfl,cx,bD⟩:=own_rowk aa;have E:=Ac aa;have t:=Ac (τ S.out (u.trans bH));have C:=Ac bD;have V:=Ac (Uz b);have cn:=Ac (kK aa S.size);clear bl aa bH bD HOr u cx
   go_wp2_with fail
   go_loopw [18](λi wr=>∃a:Nat,1<=a/\(a<=b.length\/a=1)/\i=fP gZ (a:Nat)/\η cN wr/\lW (ET b) a)(λi _=>b.length-(intOf i).toNat)
   case atStart=>exact⟨1,Ae _,.inr rfl,rfl,Below.refl _ _,λi o G=>absurd G O1⟩
   case round=>
    obtain⟨a,cy,c1,rfl,bJ,b3⟩:=hrel;have B:=Ac bJ;have ar:=Ac b3;clear bJ b3;by_cases q:a<b.length
    ·obtain⟨cH,a0,a1⟩:=ltT q;have cE:=wk1 a O1;have c5:IntKind.i64.wrap ((a:Int) -1)=((a-1:Nat):Int):=by rw[IntWalk.i64_in _ O1];omega
     obtain⟨D,ca,rfl,bL,aJ⟩:=(Rd.below C.out B.out).2 O1;have ah:=aJ a O1;have al:=aJ (a-1) O1;obtain⟨z,ac⟩:∃z,(ET b)[a]?=iC z:=⟨_,Ah (by rw[V.out];exact q)⟩;obtain⟨Q,ad⟩:∃Q,(ET b)[a-1]?=iC Q:=⟨_,Ah (by rw[V.out];omega)⟩;rw[iF,DJ,ac]at ah;rw[iF,DJ,ad]at al;simp only[Option.map_some]at ah al;have cB:a-1<b.length:=O1;have cC:decide (((a-1:Nat):Int)<(b.length:Int))=true:=decide_eq_true O1;have br:Hid ((ET b)[a-1+1]?=iC z):=Ac (by rw[show a-1+1=a by omega];exact ac);have bs:=Ac ad;have bp:Hid (z≠Q->lW (ET b) (a+1)):=Ac (qK cy ar.out ac ad);clear aJ ac ad;generalize a-1=c7 at*;cases N:(z==Q)with
     |true=>
      have az:Hid (IW (ET b)=false):=Ac (by
       cases cD:IW (ET b)with
       |false=>rfl
       |true=>exact absurd (beq_iff_eq.1 N).symm (Agf cD bs.out br.out))
      clear bp br bs ar
      go_wp2_with fail
      go_quiet(fail)
      go_wp2_with fail
      go_ret2;refine⟨τ t.out (B.trans ((Dr.one _ _).below _)),?_⟩;rw[bj.out,az.out,ku Bool.false_ne_true];rfl
     |false=>
      have ae:Hid (z≠Q):=Ac (beq_eq_false_iff_ne.1 N)
      go_wp2_with fail
      go_quiet(fail)
      go_wp2_with fail
      go_roundw
      case rel=>exact⟨a+1,O1,.inl O1,by go_num,B.trans ((Dr.one _ _).below _),bp ae.out⟩
      case measure=>simp[intOf];omega
    ·obtain⟨a0,a1⟩:=qA q;have ch:Hid (IW (ET b)=true):=Ac (Abw (λi o G=>ar i o (Ω V.out) G))
     go_wp2_with fail
     go_ret2;refine⟨τ t.out B.out,?_⟩;rw[bj.out,ch.out,jM rfl];have:wr.ownsRow w.heap.size 3 1 (fD cd b.length cp) (ET b).length (iF (ET b)):=by rw[V.out];exact Ew cn.out B.out
     exact⟨_,rfl,this⟩
def kS(h:Ix w x d p L s F){j:List (List UInt8×UInt64)}{k:List Int}(i:DW s=iC (j,k)){l:List Int}(f:Hq s j (ET k)=iC l)(A:l.length<=100000)(r:IW (ET l)=true):
 Calls prog 74 #[ptr0 d,ptr0 p,ptr0 x] w λc w'=>∃b,c=gY (gJ #[b,fP gZ 0])/\w'.ownsRow w.heap.size 3 1 b l.length (iF (ET l))/\η w w':=by
 refine(Aa6 h i (λv z t a=>?_)).mono ?_
 ·obtain⟨y,n,o⟩:=ZI f v t;rw[n]at a;injection a with a
  have:=iO o;rw[a]at this;omega
 ·rintro c w'⟨q,g⟩;have u:Vf s=iC (ET l):=by unfold Vf;rw[i];simp only[f,r,if_true]
  rw[u]at g;obtain⟨b,m,e⟩:=g;rw[Uz]at e;exact⟨b,m,e,q⟩
end
def Akm(s:St)(slot:Nat)(b:List (List UInt8×UInt64)):Prop:=∀c(h:c<b.length),∃a d,IE s b[c].2=iC (a::d)/\a.rc.stamp.toNat<=slot
section
variable{w w':World}{x d p L:Nat}{s:St}{F:Nat->Prop}
def Akn(h:Ix w x d p L s F){b:List (List UInt8×UInt64)}{an:List Int}(H:DW s=iC (b,an))(slot:UInt64)(z:Akm s slot.toNat b):
 Calls prog 76 #[ptr0 d,ptr0 p,ptr0 x,fP ig (slot.toNat:Int)] w λj w'=>j=gY (fP gZ 0)/\η w w':=by
 have l:=Ac (Ur h);have Y:=Ac h;have X:=Ac H;have V:=Ac z;clear h H z;go_enter func76,ntmps76
 go_wp2_with fail
 refine l.mono ?_;rintro j aq⟨u,D⟩;rw[X.out]at D;obtain⟨a2,rfl,B,aV⟩:=D;obtain⟨aw,aJ,rfl,aa,G⟩:=own_rowk B;have n:=Ac u;have W:=Ac G;clear l B u G aa
 go_wp2_with fail
 go_loopw [26](λc wr=>∃a:Nat,a<=b.length/\c=fP gZ (a:Nat)/\η aq wr)(λc _=>b.length-(intOf c).toNat)
 case atStart=>exact⟨0,BA _,rfl,Below.refl _ _⟩
 case round=>
  obtain⟨a,aR,rfl,t⟩:=hrel;have e:=Ac t;clear t;by_cases g:a<b.length
  ·obtain⟨aE,a0,rfl,aM,K,M⟩:=pF (Rd.below W.out e.out) a g;obtain⟨aZ,ad,ae⟩:=ltT g;have aX:=wk1 a O1;obtain⟨i,ap,f,ac⟩:=V a g;obtain⟨⟨am,N⟩,A⟩:∃ah,ah=b[a]:=⟨_,rfl⟩;rw[<-A]at K M f;simp only at K M f;have q:=Ac f;obtain⟨a4,I,v,-⟩:=newB wr 115 [fQ ⟨am.toArray⟩,fP ig (N.toNat:Int)];have o:=Ac (τ e.out v);have m:=τ n.out o.out;have r:=Ac (Uj (Y.below m).sys N);have al:=Ac I;clear f A I v m e
   go_wp2_with fail
   rw[<-al.out];refine r.mono ?_;rintro j ar⟨y,E⟩;rw[q.out]at E;obtain⟨U,a3,rfl,C⟩:=E;obtain⟨az,aL,rfl,ab,J⟩:=Zl C;have Z:=Ac (τ o.out y);obtain⟨aF,aD,rfl,a5,P,Q,R,S,T⟩:=J.at 0 Θ;obtain⟨ao,k⟩:=ε ((i::ap).length);have aW:0<ao:=by rw[k];simp
   rw[<-k];rw[Nat.zero_mul,Nat.add_zero]at P Q R S T;simp only[List.getElem_cons_zero]at Q;have t2:decide (slot.toNat<i.rc.stamp.toNat)=false:=decide_eq_false O1;generalize i.rc.stamp=a1 at*;clear r C y J U ab k P R S T ac q
   go_wp2_with fail
   go_loopw [15](λc av=>c=fP gZ 0/\av=ar)(λ_ _=>0)
   case atStart=>exact⟨rfl,rfl⟩
   case round=>
    obtain⟨rfl,rfl⟩:=hrel
    go_wp2_with fail
    go_roundw
    case rel=>exact⟨a+1,O1,by go_num,Z.out⟩
    case measure=>simp[intOf];omega
  ·obtain⟨ad,ae⟩:=qA g
   go_wp2_with fail
   go_ret;exact⟨rfl,τ n.out e.out⟩
def Agh(h:Ix w x d p L s F){q:List (List UInt8×UInt64)}{r:List Int}(o:DW s=iC (q,r)){l:List Int}(k:Hq s q (ET r)=iC l)(C:l.length<=100000)(j:IW (ET l)=true)(g:allP s=[]):
 Calls prog 77 #[ptr0 d,ptr0 p,ptr0 x] w λa w'=>a=gY (fP gZ 0)/\η w w':=by
 have f:=Ac (kS h o k C j);have z:=Ac h;have u:=Ac g;clear h o k j g;go_enter func77,ntmps77
 go_wp2_with fail
 refine f.mono ?_;rintro a e⟨U,rfl,m,c⟩;obtain⟨K,N,rfl,A,E⟩:=own_rowk m;have v:=Ac c;have b:=Ac (show Calls prog 31 #[ptr0 p] e λa w'=>∃t,a=gY t/\w'.ownsRow e.heap.size 3 1 t (allP s).length (qg (allP s))/\η e w' from by
  obtain⟨T,R,S,Q,P,own,D,-⟩:=(z.below c).sys;exact tN D.at)
 rw[u.out]at b;simp only[Dx]at b;clear f m c E A
 go_wp2_with fail
 refine b.mono ?_;rintro a I⟨V,rfl,n,i⟩;obtain⟨M,O1,rfl,B,G⟩:=own_rowk n;have y:=Ac (τ v.out i);clear b n i G B
 go_wp2_with fail
 go_loopw [26](λH J=>H=fP gZ 0/\J=I)(λ_ _=>0)
 case atStart=>exact⟨rfl,rfl⟩
 case round=>
  obtain⟨rfl,rfl⟩:=hrel
  go_wp2_with fail
  go_ret;exact⟨rfl,y.out⟩
def Agi{ws:Nat->UInt64}{own Z:Nat->Prop}{G:St->Prop}{sh:Sh}(bk:0<L)(bj:L<=1024)(i:shapeOf L=iC sh)(h:Dev w d L ws M0 (λ_=>0) own)(z:Tabs w)(Y:¬own 0)(aa:¬own 1)
 (ac:wordsAt ws 0 8=wordsOf sh)(ao:∀aR,aR<sh.BO->Gx (ws (sh.table/8+aR)).toNat=true)(C:s={sh:=sh,ws:=ws,tk:=wordsAt ws (sh.table/8) sh.BO,hd:=BB sh.BO 0}){r:List (List UInt8×UInt64)×List Int}(aE:DW s=iC r)(bl:(ws 8).toNat<=60000)
 (an:∀(e:World)(p x:Nat)(F:Nat->Prop),Ix e x d p L s F->Calls prog 74 #[ptr0 d,ptr0 p,ptr0 x] e λc w'=>(∃a1 bm bh,c=gY (gJ #[fD a1 bm bh,fP gZ 0]))/\η e w')
 (ae:∀(e:World)(p x:Nat)(F:Nat->Prop),Ix e x d p L s F->w.heap.size+1<=e.heap.size->(∀a,F a->own a\/w.heap.size+1<=a)->Calls prog 76 #[ptr0 d,ptr0 p,ptr0 x,fP ig ((ws 8).toNat:Int)] e λc f=>c=gY (fP gZ 0)/\
  ∃bo m,Ix f x d p L bo m/\AL F m e f/\Touch (λa=>Z a\/w.heap.size+1<=a) e f/\Calls prog 77 #[ptr0 d,ptr0 p,ptr0 x] f λc y=>c=gY (fP gZ 0)/\
   ∃aW N,Ix y x d p L aW N/\AL m N f y/\Touch (λa=>Z a\/w.heap.size+1<=a) f y/\G aW):
 Calls prog 38 #[ptr0 d] w λc w'=>∃p x F aV,c=gY (gJ #[.agg #[ptr0 p,ptr0 x,fP ig ((ws 8).toNat:Int)],fP gZ 0])/\
  Ix w' x d p L aV F/\G aV/\Touch Z w w'/\(∀a,F a->own a\/w.heap.size<=a)/\w.heap.size<=x:=by
 have V:=Ac z.lt;obtain⟨bq,D,l,ah⟩:=newB w 92 [gV none,gV none,fP ig 0];have a6:=Ac ah;have t:=Ac (Aej bk bj i U (h.below l) (z.below l) Y aa ac ao);rw[<-C]at t;have a3:=Ac l;have bc:=Ac D;have bE:bq.heap.size=w.heap.size+1:=by rw[D];simp
 have X:Hid (∀a,own a->a<w.heap.size):=Ac (λa b=>h.lt a b);have ad:s.ws 8=ws 8:=by rw[C]
 have a2:=Ac ad;have ba:=Ac aE;have S:=Ac an;have W:=Ac ae;have t6:decide ((60000:Int)<((ws 8).toNat:Int))=false:=decide_eq_false O1;have a8:Hid (8<8*L):=Ac (Ξ ((IK i).fits) ((IK i).OI) ((IK i).BO));clear h z Y aa ac ao C aE bl an ae D l ah ad i;go_enter func38,ntmps38
 go_wp2_with fail
 rw[<-bc.out];refine t.mono ?_;rintro c bJ⟨p,F,rfl,aF,ap,al⟩;have P:=Ac ap;have Q:=Ac (Aa1 aF);have o:Hid (∀a,F a->own a\/w.heap.size+1<=a):=Ac (λa b=>(al a b).imp id (λh=>O1));clear t aF ap al
 go_wp2_with fail
 refine Q.mono ?_;rintro c bL⟨aq,aD⟩;rw[ba.out]at aD;obtain⟨x,rfl,E,I⟩:=aD;have a4:=Ac (τ P.out aq);have bd:=Ac E;have be:=Ac I;have R:=Ac (S _ _ _ _ E);clear Q aq E I S
 go_wp2_with fail
 refine R.mono ?_;rintro c bN⟨⟨bw,bG,bA,rfl⟩,B⟩;have k:=Ac (τ a4.out B);have H:=bd.below B;have q:=Ac (H.sys.load 8 a8.out);rw[a2.out,show((8*8:Nat):Int)=64 from rfl]at q;have aZ:=Ac (W _ _ _ _ H (Ω k.size) o.out);clear R B H W
 go_wp2_with fail
 refine q.mono ?_;rintro c bO⟨rfl,rfl⟩;clear q
 go_wp2_with fail
 refine aZ.mono ?_;rintro c bR⟨rfl,bH,bx,-,aw,aJ,ar⟩;have a0:=Ac aw;have T:=Ac aJ;have M:=Ac ar;clear aZ aw aJ ar
 go_wp2_with fail
 refine M.mono ?_;rintro c j⟨rfl,bp,n,aM,az,aL,av⟩;have u:=Ac aM;have a5:=Ac av;have aX:=Ac (a0.trans az);have a9:Hid (¬F w.heap.size):=Ac (λb=>(o _ b).elim (λh=>Ω (X _ h)) (λh=>O1));have bb:Hid (Touch Z w j):=Ac (((Touch.of_below (τ a3.out k.out)).trans T.out (λa b=>b.imp id (λh=>O1))).trans aL (λa b=>b.imp id (λh=>O1)));have g:CB j w.heap.size 92 [gV none,gV none,fP ig 0]:=by
  have ab:=a6.out.ξ k.out;exact(aX.touch.block _ ab.lt a9.out).trans ab
 have f0:=g.frozen 0;have f1:=g.frozen 1;have f2:=g.frozen 2;obtain⟨bB,bC,bD⟩:=g.p3;have a7:=Ac g;clear M aM az aL av g a0 T
 go_wp2_with fail
 obtain⟨e,A⟩:=ε (((j.setCell (Φ w.heap.size) (ptr0 p)).setCell (Δ w.heap.size 1) (ptr0 x)).setCell (Δ w.heap.size 2) (fP ig ((ws 8).toNat:Int)));rw[<-A];have K:Touch (λJ=>J=w.heap.size) j e:=by rw[A];exact(((Touch.refl (λJ=>J=w.heap.size) j).setCell (p:=Φ w.heap.size) (.inl rfl) _).setCell (p:=Δ w.heap.size 1) (.inl rfl) _).setCell (p:=Δ w.heap.size 2) (.inl rfl) _
 have bg:CB e w.heap.size 92 [ptr0 p,ptr0 x,fP ig ((ws 8).toNat:Int)]:=by rw[A];exact((a7.AX 0 _).AX 1 _).AX 2 _
 obtain⟨br,bs,bt⟩:=bg.p3;refine bodyPost_ret (v:=gJ #[.agg #[ptr0 p,ptr0 x,fP ig ((ws 8).toNat:Int)],fP gZ 0]) (by simp[results,results38,go_sem,br,bs,bt]) rfl ?_;have am:∀a,n a->own a\/w.heap.size+1<=a:=λa b=>(aX.own a b).elim (o a) (λh=>.inr (Ω k.size))
 have bi:∀a,n a->¬a=w.heap.size:=λa b c=>(am a b).elim (λh=>Ω (X a h)) (λh=>O1)
 have I:w.heap.size<x:=by
  have:=be.out;have:=P.size;omega
 exact⟨p,x,n,bp,rfl,⟨u.sys.keep K bi (λc=>Ω V.out) (λc=>Ω V.out),u.box.touch K O1,u.out.out⟩,a5.out,bb.trans K (λa b=>.inr (Nat.le_of_eq b.symm)),λa b=>(am a b).imp id (λh=>O1),O1⟩
def Ako{ws:Nat->UInt64}{own:Nat->Prop}{sh:Sh}(z:0<L)(y:L<=1024)(H:shapeOf L=iC sh)(h:Dev w d L ws M0 (λ_=>0) own)(A:Tabs w)(t:¬own 0)(u:¬own 1)
 (v:wordsAt ws 0 8=wordsOf sh)(B:∀m,m<sh.BO->Gx (ws (sh.table/8+m)).toNat=true)(J:s={sh:=sh,ws:=ws,tk:=wordsAt ws (sh.table/8) sh.BO,hd:=BB sh.BO 0})
 {k:List (List UInt8×UInt64)}{n:List Int}(j:DW s=iC (k,n)){l:List Int}(i:Hq s k (ET n)=iC l)(E:l.length<=100000)(D:IW (ET l)=true)(I:(ws 8).toNat<=60000)(C:Akm s (ws 8).toNat k)
 (hF:∀(e:World)(p x:Nat)(F:Nat->Prop),Ix e x d p L s F->Calls prog 77 #[ptr0 d,ptr0 p,ptr0 x] e λb w'=>b=gY (fP gZ 0)/\η e w'):
 Calls prog 38 #[ptr0 d] w λb w'=>∃p x F,b=gY (gJ #[.agg #[ptr0 p,ptr0 x,fP ig ((ws 8).toNat:Int)],fP gZ 0])/\
  Ix w' x d p L s F/\η w w'/\(∀f,F f->own f\/w.heap.size<=f)/\w.heap.size<=x:=by
 refine(Agi (Z:=λ_=>False) (G:=λo=>o=s) z y H h A t u v B J j I (λe p x F a=>(kS a j i E D).mono ?_) (λe p x F a _ _=>(Akn a j (ws 8) C).mono ?_)).mono ?_
 ·rintro b w'⟨P,rfl,i,c⟩;obtain⟨q,r,rfl,_,_⟩:=own_rowk i;exact⟨⟨q,_,r,rfl⟩,c⟩
 ·rintro b N⟨rfl,c⟩;refine⟨rfl,s,F,a.below c,AL.of_below c,Touch.of_below c,(hF _ _ _ _ (a.below c)).mono ?_⟩;rintro b O1⟨rfl,g⟩;exact⟨rfl,s,F,(a.below c).below g,AL.of_below g,Touch.of_below g,rfl⟩
 ·rintro b w'⟨p,x,F,o,rfl,a,rfl,K,hF,M⟩;exact⟨p,x,F,rfl,a,K.below (Ae _) (λ_ h=>h.elim),hF,M⟩
end
