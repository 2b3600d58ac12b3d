import Derived.Test.YtfmkofmaabgbkaaGreatDoorJ37
set_option linter.defProp false
set_option maxHeartbeats 32000000
set_option maxRecDepth 100000
open Go.Lib renaming hid->Ac
open List renaming getElem_toArray->Aq,getElem_cons_succ->Aj,getElem_cons_zero->Ai,setIfInBounds_toArray->Af,set_cons_zero->Ak,set_cons_succ->Au
open Go.Value renaming slice->fD,int->fP,string->fQ,bool->fU,agg->gU,pointer->gV
open Go.Ending renaming returned->gY
open Go.IntKind renaming i64->gZ
open Option renaming some->iC,none->iD
open Bool renaming true->jm,false->jw
namespace Go.Proofs.YtfmkofmaabgbkaaGreatDoor
open Go.RowKit
open Go.Proofs.Tryz
def anW(x:An)(A:Option Addr)(c:Nat):Value:=gU #[fQ x.text,fD A x.pairs.length c,fP gZ x.n,fU x.done,fP gZ x.e]
def Ac8(a b:An)(A B:Option Addr)(c d:Nat)(w:World)(R:a.pairs.length<=1000000)(I:PrR w A a.pairs)(J:PrR w B b.pairs):
 Calls prog 12 #[anW a A c,anW b B d] w λH L=>H=gY (fU (RJ a b))/\η w L:=by
 obtain⟨s,q,o,v,l⟩:=a;obtain⟨t,r,p,x,m⟩:=b;unfold anW;simp only at I J R⊢;obtain⟨M,D,S,N⟩:=newB w 38 [fQ s,fD A q.length c,fP gZ o,fU v,fP gZ l];obtain⟨W,C,K,i⟩:=newB M 38 [fQ t,fD B r.length d,fP gZ p,fU x,fP gZ m];have E:=τ S K;have V:M.heap.size=w.heap.size+1:=by rw[D];simp
 have j:=N.ξ K;rw[V]at i;have X:=j.cell 0;have Y:=j.cell 1;have Z:=j.cell 2;have aa:=j.cell 3;have ab:=j.cell 4;have ac:=i.cell 0;have ad:=i.cell 1;have ae:=i.cell 2;have ah:=i.cell 3;have al:=i.cell 4;simp only[List.getElem?_cons_zero,List.getElem?_cons_succ]at X Y Z aa ab ac ad ae ah al;have u:=Ac (Anc q r A B c d W R (I.below E) (J.below E));have f:=Ac E;have an:=Ac D;have am:=Ac C;have e:Hid (RJ ⟨s,q,o,v,l⟩ ⟨t,r,p,x,m⟩=((s.toList==t.toList)&&((o==p)&&((v==x)&&((l==m)&&VF Gy q r))))):=Ac rfl;rw[D]at C;have g:=Ac C;obtain⟨y,O1⟩:∃y,(s.toList==t.toList)=y:=⟨_,rfl⟩;obtain⟨z,P⟩:∃z,(o==p)=z:=⟨_,rfl⟩;obtain⟨k,Q⟩:∃k,(l==m)=k:=⟨_,rfl⟩;have T:(s.toList !=t.toList)= !y:=by rw[<-O1];rfl
 have U:(o !=p)= !z:=by rw[<-P];rfl
 have F:(l !=m)= !k:=by rw[<-Q];rfl
 rw[O1,P,Q]at e;generalize VF Gy q r=ao at*;clear I J C D S K E N i j V;cases y
 case false=>
  simp only[Bool.not_false]at T;go_enter func12,ntmps12
  go_wp2_with(rw[<-g.out])
  go_wp2_with fail
  go_ret;exact⟨by rw[e.out];rfl,f.out⟩
 case true=>
  simp only[Bool.not_true]at T;cases z
  case false=>
   simp only[Bool.not_false]at U;go_enter func12,ntmps12
   go_wp2_with(rw[<-g.out])
   go_wp2_with fail
   go_ret;exact⟨by rw[e.out];rfl,f.out⟩
  case true=>
   simp only[Bool.not_true]at U;cases v<;>cases x
   case true.false=>
    go_enter func12,ntmps12
    go_wp2_with(rw[<-g.out])
    go_wp2_with fail
    go_ret;exact⟨by rw[e.out];rfl,f.out⟩
   case false.true=>
    go_enter func12,ntmps12
    go_wp2_with(rw[<-g.out])
    go_wp2_with fail
    go_ret;exact⟨by rw[e.out];rfl,f.out⟩
   case true.true=>
    cases k
    case false=>
     simp only[Bool.not_false]at F;go_enter func12,ntmps12
     go_wp2_with(rw[<-g.out])
     go_wp2_with fail
     go_ret;exact⟨by rw[e.out];rfl,f.out⟩
    case true=>
     simp only[Bool.not_true]at F;go_enter func12,ntmps12
     go_wp2_with(rw[<-g.out])
     go_wp2_with fail
     refine u.mono ?_;rintro H L⟨rfl,n⟩;have G:=Ac (f.trans (n.below w.heap.size));clear n u
     go_wp2_with fail
     go_ret;exact⟨by rw[e.out];rfl,G.out⟩
   case false.false=>
    cases k
    case false=>
     simp only[Bool.not_false]at F;go_enter func12,ntmps12
     go_wp2_with(rw[<-g.out])
     go_wp2_with fail
     go_ret;exact⟨by rw[e.out];rfl,f.out⟩
    case true=>
     simp only[Bool.not_true]at F;go_enter func12,ntmps12
     go_wp2_with(rw[<-g.out])
     go_wp2_with fail
     refine u.mono ?_;rintro H L⟨rfl,n⟩;have G:=Ac (f.trans (n.below w.heap.size));clear n u
     go_wp2_with fail
     go_ret;exact⟨by rw[e.out];rfl,G.out⟩
def JU:Sh:={lines:=100,BO:=6,table:=128,data:=192}
def lu:shapeOf 100=iC JU:=by decide+kernel
def KN(g d p x tt bk:Nat)(k:Nat):World->(Nat->Prop)->Prop:=EgM g d p x tt bk 100 (stP (eg0 JU) lA k)
section
variable{g d p x tt bk:Nat}
def KN.frames(k:Nat):Frames (KN g d p x tt bk k):=EgM.frames
def KN.ok(k:Nat):Io 100 (stP (eg0 JU) lA k):=stP_ok (eg0_ok U lu) _ k
def Arv:Steps (KN g d p x tt bk 0) (KN g d p x tt bk 1) 21 #[ptr0 g] (.tuple #[fP gZ 0,fP gZ 0]):=by
 have h:=Ac6 (g:=g) (d:=d) (p:=p) (x:=x) (tt:=tt) (bk:=bk) (L:=100) (E:=stP (eg0 JU) lA 0);rw[show(Na (stP (eg0 JU) lA 0)).2=(0,0)by decide+kernel]at h;exact h
def Arw:Steps (KN g d p x tt bk 1) (KN g d p x tt bk 2) 22 #[ptr0 g,fP gZ ((0:Nat):Int),fQ ⟨#[97]⟩,fQ ⟨#[117,117]⟩] (fP gZ 0):=by
 have h:=Ape (g:=g) (d:=d) (p:=p) (x:=x) (tt:=tt) (bk:=bk) (L:=100) (E:=stP (eg0 JU) lA 1) (KN.ok 1).sets ((0:Nat):Int) ⟨#[97]⟩ ⟨#[117,117]⟩ U U;rw[show(Jy (stP (eg0 JU) lA 1) ((0:Nat):Int) ⟨⟨#[97]⟩,⟨#[117,117]⟩,jw⟩).2=0 by decide+kernel]at h;exact h
def Arx:Steps (KN g d p x tt bk 2) (KN g d p x tt bk 3) 26 #[ptr0 g,fP gZ ((0:Nat):Int)] (fP gZ 0):=by
 have h:=wW (g:=g) (d:=d) (p:=p) (x:=x) (tt:=tt) (bk:=bk) (L:=100) (E:=stP (eg0 JU) lA 2) (KN.ok 2).up (KN.ok 2).sets (KN.ok 2).ws8 ((0:Nat):Int);rw[show(LH (stP (eg0 JU) lA 2) ((0:Nat):Int)).2=0 by decide+kernel]at h;exact h
def Ary:Steps (KN g d p x tt bk 3) (KN g d p x tt bk 4) 27 #[ptr0 g] (.tuple #[fP gZ 0,fU jw,fP gZ 0]):=by
 have h:=Abe (g:=g) (d:=d) (p:=p) (x:=x) (tt:=tt) (bk:=bk) (L:=100) (E:=stP (eg0 JU) lA 3) (KN.ok 3).on;rw[show(LJ (stP (eg0 JU) lA 3)).2=(0,jw,0)by decide+kernel]at h;exact h
def Arz:Steps (KN g d p x tt bk 4) (KN g d p x tt bk 5) 27 #[ptr0 g] (.tuple #[fP gZ 0,fU jm,fP gZ 0]):=by
 have h:=Abe (g:=g) (d:=d) (p:=p) (x:=x) (tt:=tt) (bk:=bk) (L:=100) (E:=stP (eg0 JU) lA 4) (KN.ok 4).on;rw[show(LJ (stP (eg0 JU) lA 4)).2=(0,jm,0)by decide+kernel]at h;exact h
def Ak5:(stP (eg0 JU) lA 5).slot=1:=Avu
end
def tk{P:Program}{b:Array Oper}{d:Exit->Act->World->Prop}{g:Region.Mode}{S:World->Prop}(i:Nat)(v:Value){c:Oper}{fuel:Nat}{f:Array Bool}{a:Act}{w:World}(l:S w)(h:wpAnyH P g b d S fuel (f.setIfInBounds i jm) (a.put c.dst v) w)(hi:b[i]?=iC c:=by rfl)
 (e:(Region.noSelect b&&(Region.free g b f i&&(Region.ready g b f).contains i))=true:=by kernel_rfl)(k:∀j a w,d (.panic j) (a.put c.dst v) w->d (.panic j) a w:=by exact λ_ _ _ h=>h)(n:Region.wanted c (yielded b a.tmps)=true:=by rfl)
 (hy:∀w,S w->(execOp a.eval c).run P w=.ok (.value v) w:=by intro w m;clear m;go_simp):wpAnyH P g b d S (fuel+1) f a w:=by
 rw[Bool.and_eq_true,Bool.and_eq_true]at e;exact wpAnyH_take hi e.1 e.2.1 e.2.2 k (.inl ⟨n,hy⟩) l h
def Abk:List UInt8:=[0,0,0,1,97,18,5,0,0,6,0,0,6,0,0,7]
def Avv:decP Abk=lA:=by rfl
def Avw:List Av:=[⟨⟨#[]⟩,fD iD 0 0,0,jw,0⟩,⟨⟨#[]⟩,fD iD 0 0,0,jw,0⟩,⟨⟨#[]⟩,fD iD 0 0,0,jw,0⟩,⟨⟨#[]⟩,fD iD 0 0,0,jw,0⟩,⟨⟨#[]⟩,fD iD 0 0,0,jm,0⟩]
def Tryz.Ar0(a b e f:Int)(c d g i:ByteArray)(w:World):(Op.equalIn 10000 33 (gU #[fP gZ a,fP gZ b,fQ c,fQ d]) (gU #[fP gZ e,fP gZ f,fQ g,fQ i])).run prog w=.ok ((a==e&&b==f)&&(c.toList==g.toList&&d.toList==i.toList)) w:=by
 have j:prog.underlying 33=iC (.struct (prog.fieldsOf 33)):=by kernel_rfl
 rw[show(10000:Nat)=9999+1 from rfl]
 first
  |rw[run_equalIn_agg w 9999 33 _ _ j Γ]
  |rw[run_equalIn_agg w 9999 33 _ _ j (λw=>by kernel_rfl)]
 have u9:=underlying9;have u3:=underlying3;simp only[Program.fieldsOf,underlying33];go_simp;by_cases k:a=e<;>by_cases l:b=f<;>by_cases m:c.toList=g.toList<;>by_cases n:d.toList=i.toList<;>simp[k,l,m,n]
def alive21{w:World}(aW:Tabs w):Calls prog 4 #[] w λu f=>u=gY (fU jm)/\η w f:=by
 have cM:=aW.lt;obtain⟨bc,aZ,bm,-⟩:=newB w 5 [fP .u8 0,fP .u8 0,fP .u8 0,fP .u8 1,fP .u8 97,fP .u8 18,fP .u8 5,fP .u8 0,fP .u8 0,fP .u8 6,fP .u8 0,fP .u8 0,fP .u8 6,fP .u8 0,fP .u8 0,fP .u8 7];have bA:Bs bc (iC (Φ w.heap.size)) Abk.length Abk:=by
  have h:=Ai6 w 5 (Abk.map bv) 16 rfl;rw[show(Abk.map bv).toArray= #[fP .u8 0,fP .u8 0,fP .u8 0,fP .u8 1,fP .u8 97,fP .u8 18,fP .u8 5,fP .u8 0,fP .u8 0,fP .u8 6,fP .u8 0,fP .u8 0,fP .u8 6,fP .u8 0,fP .u8 0,fP .u8 7]from rfl,<-aZ]at h;exact h
 have C:=scrDecode Abk (iC (Φ w.heap.size)) 16 bc U U bA;rw[Avv]at C;have C:=Ac C;have a6:=Ac bm;have bN:=Ac aZ;have bL:=Ac aW;rw[show Abk.length=16 from rfl]at C;clear bm bA aZ aW;go_enter func4,ntmps4
 go_wp2_with fail
 rw[<-bN.out];refine C.out.mono ?_;rintro u bC⟨cW,rfl,aE,bo⟩;obtain⟨aL,az⟩:=ε lA;have ap:aL.length=5:=by rw[az];rfl
 rw[<-az,ap]at aE;obtain⟨a5,bd,rfl,b7,bB⟩:=own_rowk aE;have bh:=own_at aE;have aJ:=τ a6.out bo;have a7:=Ac aJ;have am:=egBegun (L:=100) (sh:=JU) U U lu (bL.below aJ);rw[show((100:Nat):Int)=100 from rfl]at am;have am:=Ac am;have bH:=Ac bB;have B:=Ac bh;have a9:=Ac az;have cL:=a6.size;clear C bo aJ aE bB b7 bh az
 go_wp2_with fail
 refine am.out.mono ?_;rintro u bD⟨d,g,p,x,tt,bk,cT,cF,rfl,bi,a0,bt⟩;have bj:=bi.begunM bt (X:=λm=>m<bC.heap.size/\m≠0/\m≠1) (λm aq=>aq);have aV:SpR bD a5 aL:=by
  have h:=Rd.below bH.out a0;unfold SpR;rw[ap];exact h
 have an:=Arf g aL a5 bd bD O1 aV Avw (by rw[ap];rfl) (λj bw=>⟨iD,0,0,by
  have b1:j<5:=bw;rcases(show j=0\/j=1\/j=2\/j=3\/j=4 by omega)with rfl|rfl|rfl|rfl|rfl<;>rfl⟩)
  (KN g d p x tt bk) (λj k bR aw bS=>KN.frames j k bR aw bS)
  (λj k aw bw b9 ao=>by
   have b1:j<5:=b9;have b2:=a9.out;subst b2;rcases(show j=0\/j=1\/j=2\/j=3\/j=4 by omega)with rfl|rfl|rfl|rfl|rfl
   ·exact Ij (KN.frames 0) (KN.frames 1) Arv ao (λs t=>MZ (.inl rfl) (id:=0) (key:=⟨#[]⟩) (text:=⟨#[]⟩) .b ⟨0,0,⟨#[]⟩,jw,iD,0,0⟩ s t)
   ·exact Ij (KN.frames 1) (KN.frames 2) Arw ao (λs t=>MZ (.inl rfl) (id:=0) .p ⟨0,0,⟨#[]⟩,jw,iD,0,0⟩ s t)
   ·exact Ij (KN.frames 2) (KN.frames 3) Arx ao (λs t=>MZ (.inl rfl) (id:=0) (key:=⟨#[]⟩) (text:=⟨#[]⟩) .c ⟨0,0,⟨#[]⟩,jw,iD,0,0⟩ s t)
   ·exact Ij (KN.frames 3) (KN.frames 4) Ary ao (λs t=>MZ (.inl rfl) (id:=0) (key:=⟨#[]⟩) (text:=⟨#[]⟩) .w ⟨0,0,⟨#[]⟩,jw,iD,0,0⟩ s t)
   ·exact Ij (KN.frames 4) (KN.frames 5) Arz ao (λs t=>MZ (.inl rfl) (id:=0) (key:=⟨#[]⟩) (text:=⟨#[]⟩) .w ⟨0,0,⟨#[]⟩,jm,iD,0,0⟩ s t))
  (X0:=λm=>m<bC.heap.size/\m≠0/\m≠1) bj (λy A=>⟨(B y A).2,Ω ((B y A).1),Ω ((B y A).1)⟩)
 rw[ap,show Avw.length=5 from rfl]at an;have an:=Ac an;have a8:=Ac (τ a7.out a0);have bJ:=Ac aV;clear am bi a0 bt bj aV
 go_wp2_with fail
 refine an.out.mono ?_;rintro u o⟨cX,aw,rfl,bb,bl,b3,b4,b5,aX⟩;obtain⟨Av,z,rfl,b8,a1⟩:=own_rowk bb;obtain⟨b,e,rfl,cN,cc⟩:=a1.2 U;have aD:=Rd.touch bJ.out aX (λy A h=>h (.inl ⟨(B y A).2,Ω ((B y A).1),Ω ((B y A).1)⟩));rw[ap]at aD;obtain⟨q,r,rfl,cJ,ca⟩:=aD.2 U;have bp:η w o:=a8.trans (aX.below a8.size (λm h=>by
  by_cases aq:w.heap.size<=m
  ·exact aq
  ·exact absurd (show _ from by
    by_cases be:m=0
    ·exact .inr (.inl be)
    ·by_cases bg:m=1
     ·exact .inr (.inr bg)
     ·exact .inl ⟨Ω a7.size,be,bg⟩) h))
 obtain⟨cI,cG,cH,cQ,cP,cV,cU,aR,b6,bO⟩:=(show EgM g d p x tt bk 100 (stP (eg0 JU) lA 5) o aw from bl);rw[Ak5]at aR;have ba:=Ac (λk(j:η o k)=>egSlot (aR.below j));have ar:=Ac (λk=>Ac8 ⟨⟨#[]⟩,[],0,jw,0⟩ ⟨⟨#[]⟩,[],0,jw,0⟩ iD iD 0 0 k U (PrR.nil k) (PrR.nil k));rw[uj]at ar;have av:=Ac (λk=>Ac8 ⟨⟨#[]⟩,[],0,jw,0⟩ ⟨⟨#[]⟩,[],0,jm,0⟩ iD iD 0 0 k U (PrR.nil k) (PrR.nil k));rw[show RJ ⟨⟨#[]⟩,[],0,jw,0⟩ ⟨⟨#[]⟩,[],0,jm,0⟩=jw by simp[RJ]]at av;unfold anW at ar av;simp only[List.length_nil]at ar av;have aF:=Ac (λk=>Ao8 (.inl rfl) g 9 U 0 ⟨#[]⟩ ⟨#[]⟩ k);unfold qj at aF;rw[show((0:Nat):Int)=0 from rfl]at aF;rw[show(((1:UInt64).toNat:Nat):Int)=1 from rfl]at ba;have D:Hid (∀f,η o f->f.cell? (Δ q (r+4))=iC (fP gZ 1)/\f.cell? (Δ q (r+5))=iC (fP gZ 0)/\f.cell? (Δ q (r+6))=iC (fQ ⟨#[97]⟩)/\f.cell? (Δ q (r+7))=iC (fQ ⟨#[117,117]⟩)/\f.cell? (Δ b e)=iC (fQ ⟨#[]⟩)/\f.cell? (Δ b (e+1))=iC (fD iD 0 0)/\f.cell? (Δ b (e+2))=iC (fP gZ 0)/\f.cell? (Δ b (e+3))=iC (fU jw)/\f.cell? (Δ b (e+4))=iC (fP gZ 0)/\f.cell? (Δ b (e+10))=iC (fQ ⟨#[]⟩)/\f.cell? (Δ b (e+11))=iC (fD iD 0 0)/\f.cell? (Δ b (e+12))=iC (fP gZ 0)/\f.cell? (Δ b (e+13))=iC (fU jw)/\f.cell? (Δ b (e+14))=iC (fP gZ 0)/\f.cell? (Δ b (e+15))=iC (fQ ⟨#[]⟩)/\f.cell? (Δ b (e+16))=iC (fD iD 0 0)/\f.cell? (Δ b (e+17))=iC (fP gZ 0)/\f.cell? (Δ b (e+18))=iC (fU jw)/\f.cell? (Δ b (e+19))=iC (fP gZ 0)/\f.cell? (Δ b (e+20))=iC (fQ ⟨#[]⟩)/\f.cell? (Δ b (e+21))=iC (fD iD 0 0)/\f.cell? (Δ b (e+22))=iC (fP gZ 0)/\f.cell? (Δ b (e+23))=iC (fU jm)/\f.cell? (Δ b (e+24))=iC (fP gZ 0)):=Ac (λf j=>by
  obtain⟨cY,c0,aM,_,i⟩:=(Rd.below a1 j).2 U;injection aM with aM
  injection aM with bY b0
  subst bY b0;obtain⟨cR,cS,el,_,al⟩:=(Rd.below aD j).2 U;injection el with el
  injection el with bV bX
  subst bV bX;rw[a9.out]at al;exact⟨al 4 U,al 5 U,al 6 U,al 7 U,i 0 U,i 1 U,i 2 U,i 3 U,i 4 U,i 10 U,i 11 U,i 12 U,i 13 U,i 14 U,i 15 U,i 16 U,i 17 U,i 18 U,i 19 U,i 20 U,i 21 U,i 22 U,i 23 U,i 24 U⟩)
 obtain⟨cg,ch,cs,cy,cz,cA,cB,cC,cD,cE,ci,cj,ck,cl,cm,cn,co,cp,cq,cr,ct,cv,cw,cx⟩:=D o (Below.refl _ _);have bE:=Ac bp;have cK:prog.eqGuardType prog.depth 33=false:=by kernel_rfl
 have aq:=λk=>Tryz.Ar0 1 0 1 0 ⟨#[97]⟩ ⟨#[117,117]⟩ ⟨#[97]⟩ ⟨#[117,117]⟩ k
 have bx:((((1:Int)==1)&&((0:Int)==0))&&((ByteArray.toList ⟨#[97]⟩==ByteArray.toList ⟨#[97]⟩)&&(ByteArray.toList ⟨#[117,117]⟩==ByteArray.toList ⟨#[117,117]⟩)))=true:=by simp
 rw[bx]at aq;have cb:=D.out;clear an bb bl b3 b4 b5 aX b8 a1 cc aD ca aR bO b6 bp cb bx
 go_wp2_with fail
 refine wp_region_held_drew (S:=(λf=>f.cell? (Δ q (r+4))=iC (fP gZ 1)/\f.cell? (Δ q (r+5))=iC (fP gZ 0)/\f.cell? (Δ q (r+6))=iC (fQ ⟨#[97]⟩)/\f.cell? (Δ q (r+7))=iC (fQ ⟨#[117,117]⟩)/\f.cell? (Δ b e)=iC (fQ ⟨#[]⟩)/\f.cell? (Δ b (e+1))=iC (fD iD 0 0)/\f.cell? (Δ b (e+2))=iC (fP gZ 0)/\f.cell? (Δ b (e+3))=iC (fU jw)/\f.cell? (Δ b (e+4))=iC (fP gZ 0)/\f.cell? (Δ b (e+10))=iC (fQ ⟨#[]⟩)/\f.cell? (Δ b (e+11))=iC (fD iD 0 0)/\f.cell? (Δ b (e+12))=iC (fP gZ 0)/\f.cell? (Δ b (e+13))=iC (fU jw)/\f.cell? (Δ b (e+14))=iC (fP gZ 0)/\f.cell? (Δ b (e+15))=iC (fQ ⟨#[]⟩)/\f.cell? (Δ b (e+16))=iC (fD iD 0 0)/\f.cell? (Δ b (e+17))=iC (fP gZ 0)/\f.cell? (Δ b (e+18))=iC (fU jw)/\f.cell? (Δ b (e+19))=iC (fP gZ 0)/\f.cell? (Δ b (e+20))=iC (fQ ⟨#[]⟩)/\f.cell? (Δ b (e+21))=iC (fD iD 0 0)/\f.cell? (Δ b (e+22))=iC (fP gZ 0)/\f.cell? (Δ b (e+23))=iC (fU jm)/\f.cell? (Δ b (e+24))=iC (fP gZ 0))) Γ ⟨cg,ch,cs,cy,cz,cA,cB,cC,cD,cE,ci,cj,ck,cl,cm,cn,co,cp,cq,cr,ct,cv,cw,cx⟩ (λa=>?_);refine tk 0 (fD (iC (Δ q r)) 5 bd) a ?_;refine tk 1 (gV (iC (Δ q (r+4)))) a ?_;refine tk 2 (gU #[fP gZ 1,fP gZ 0,fQ ⟨#[97]⟩,fQ ⟨#[117,117]⟩]) a (hy:=λw l=>by obtain⟨E,F,T,Z,aa,ab,ac,ad,ae,ah,G,H,I,J,K,M,N,P,Q,R,V,W,X,Y⟩:=l;go_simp) ?_;refine tk 3 (gU #[fP gZ 1,fP gZ 0,fQ ⟨#[97]⟩,fQ ⟨#[117,117]⟩]) a ?_
 try simp only[Act.put,Aq,Aj,Ai,Af,Ak,Au]
 refine tk 4 (fU jm) a ?_;refine tk 5 (fU jm) a ?_;refine tk 6 (fD (iC (Δ b e)) 5 z) a ?_;refine tk 7 (fP gZ 5) a ?_
 try simp only[Act.put,Aq,Aj,Ai,Af,Ak,Au]
 refine tk 8 (fU jm) a ?_;refine tk 9 (fU jm) a ?_;refine tk 10 (fU jm) a ?_;refine tk 11 (fD (iC (Δ b e)) 5 z) a ?_
 try simp only[Act.put,Aq,Aj,Ai,Af,Ak,Au]
 refine tk 12 (gV (iC (Δ b (e+20)))) a ?_;refine tk 13 (gV (iC (Δ b (e+23)))) a ?_;refine tk 14 (fU jm) a (hy:=λw l=>by obtain⟨E,F,T,Z,aa,ab,ac,ad,ae,ah,G,H,I,J,K,M,N,P,Q,R,V,W,X,Y⟩:=l;go_simp) ?_;refine tk 15 (fU jm) a ?_
 try simp only[Act.put,Aq,Aj,Ai,Af,Ak,Au]
 refine tk 16 (fU jm) a ?_;refine tk 17 (fD (iC (Δ b e)) 5 z) a ?_;refine tk 18 (gV (iC (Δ b (e+20)))) a ?_;refine tk 19 (gV (iC (Δ b (e+24)))) a ?_
 try simp only[Act.put,Aq,Aj,Ai,Af,Ak,Au]
 refine tk 20 (fP gZ 0) a (hy:=λw l=>by obtain⟨E,F,T,Z,aa,ab,ac,ad,ae,ah,G,H,I,J,K,M,N,P,Q,R,V,W,X,Y⟩:=l;go_simp) ?_;refine tk 21 (fU jm) a ?_;refine tk 22 (fU jm) a ?_;refine tk 23 (fU jm) a ?_
 try simp only[Act.put,Aq,Aj,Ai,Af,Ak,Au]
 refine tk 24 (ptr0 g) a ?_
 try simp only[Act.put,Aq,Aj,Ai,Af,Ak,Au]
 refine wpAnyH_ready (rs:=[25]) Γ Θ ?_;refine AllReadyH.cons rfl (λv n=>?_) AllReadyH.nil;go_simp;go_at_call 10;refine(ba _ ((Dr.drew o).below _)).mono ?_;rintro u c1⟨rfl,rfl⟩;refine n.out _ _ (D _ ((Dr.drew o).below _)) (λa=>?_);clear n v
 try simp only[Act.put,Aq,Aj,Ai,Af,Ak,Au]
 refine tk 26 (fU jm) a ?_;refine tk 27 (fU jm) a ?_;refine tk 28 (fU jm) a ?_;refine tk 29 (fD (iC (Δ b e)) 5 z) a ?_
 try simp only[Act.put,Aq,Aj,Ai,Af,Ak,Au]
 refine tk 30 (gV (iC (Δ b e))) a ?_;refine tk 31 (gU #[fQ ⟨#[]⟩,fD iD 0 0,fP gZ 0,fU jw,fP gZ 0]) a (hy:=λw l=>by obtain⟨E,F,T,Z,aa,ab,ac,ad,ae,ah,G,H,I,J,K,M,N,P,Q,R,V,W,X,Y⟩:=l;go_simp) ?_;refine tk 32 (fD (iC (Δ b e)) 5 z) a ?_;refine tk 33 (gV (iC (Δ b (e+10)))) a ?_
 try simp only[Act.put,Aq,Aj,Ai,Af,Ak,Au]
 refine tk 34 (gU #[fQ ⟨#[]⟩,fD iD 0 0,fP gZ 0,fU jw,fP gZ 0]) a (hy:=λw l=>by obtain⟨E,F,T,Z,aa,ab,ac,ad,ae,ah,G,H,I,J,K,M,N,P,Q,R,V,W,X,Y⟩:=l;go_simp) ?_
 try simp only[Act.put,Aq,Aj,Ai,Af,Ak,Au]
 refine wpAnyH_ready (rs:=[35]) Γ Θ ?_;refine AllReadyH.cons rfl (λv n=>?_) AllReadyH.nil;go_simp;go_at_call 12;refine(ar _).mono ?_;rintro u cd⟨rfl,bq⟩;have a4:η o cd:=((Dr.drew o).below _).trans bq;refine n.out _ _ (D _ a4) (λa=>?_);clear n v
 try simp only[Act.put,Aq,Aj,Ai,Af,Ak,Au]
 refine tk 36 (fU jm) a ?_;refine tk 37 (fU jm) a ?_;refine tk 38 (fD (iC (Δ b e)) 5 z) a ?_;refine tk 39 (gV (iC (Δ b (e+15)))) a ?_
 try simp only[Act.put,Aq,Aj,Ai,Af,Ak,Au]
 refine tk 40 (gU #[fQ ⟨#[]⟩,fD iD 0 0,fP gZ 0,fU jw,fP gZ 0]) a (hy:=λw l=>by obtain⟨E,F,T,Z,aa,ab,ac,ad,ae,ah,G,H,I,J,K,M,N,P,Q,R,V,W,X,Y⟩:=l;go_simp) ?_;refine tk 41 (fD (iC (Δ b e)) 5 z) a ?_;refine tk 42 (gV (iC (Δ b (e+20)))) a ?_;refine tk 43 (gU #[fQ ⟨#[]⟩,fD iD 0 0,fP gZ 0,fU jm,fP gZ 0]) a (hy:=λw l=>by obtain⟨E,F,T,Z,aa,ab,ac,ad,ae,ah,G,H,I,J,K,M,N,P,Q,R,V,W,X,Y⟩:=l;go_simp) ?_
 try simp only[Act.put,Aq,Aj,Ai,Af,Ak,Au]
 refine wpAnyH_ready (rs:=[44]) Γ Θ ?_;refine AllReadyH.cons rfl (λv n=>?_) AllReadyH.nil;go_simp;go_at_call 12;refine(av _).mono ?_;rintro u ce⟨rfl,br⟩;have a2:η o ce:=τ a4 br;refine n.out _ _ (D _ a2) (λa=>?_);clear n v
 try simp only[Act.put,Aq,Aj,Ai,Af,Ak,Au]
 refine tk 45 (fU jm) a ?_;refine tk 46 (fU jm) a ?_;refine tk 47 (fU jm) a ?_;refine tk 48 (ptr0 g) a ?_
 try simp only[Act.put,Aq,Aj,Ai,Af,Ak,Au]
 refine tk 49 (gU #[fP gZ 9,fP gZ 0,fQ ⟨#[]⟩,fQ ⟨#[]⟩]) a ?_
 try simp only[Act.put,Aq,Aj,Ai,Af,Ak,Au]
 refine wpAnyH_ready (rs:=[50]) Γ Θ ?_;refine AllReadyH.cons rfl (λv n=>?_) AllReadyH.nil;go_simp;go_at_call 13;refine(aF _).mono ?_;rintro u cf⟨rfl,bs⟩;have a3:η o cf:=τ a2 bs;refine n.out _ _ (D _ a3) (λa=>?_);clear n v
 try simp only[Act.put,Aq,Aj,Ai,Af,Ak,Au]
 refine tk 51 (fP gZ 13) a (hy:=λw l=>by clear l;go_simp;rw[show Sem.run prog (Instr.field 38 (gU #[fQ ⟨#[]⟩,fD iD 0 0,fP gZ 0,fU jw,fP gZ 13]) 4) w=.ok (fP gZ 13) w from by kernel_rfl];rfl) ?_;refine tk 52 (fU jm) a ?_;refine tk 53 (fU jm) a ?_;refine tk 54 (fU jm) a ?_
 try simp only[Act.put,Aq,Aj,Ai,Af,Ak,Au]
 refine wpAnyH_done Γ ?_ _;have bG:=Ac (τ bE.out a3);clear a4 a2 a3 bq br bs a
 go_wp2_with fail
 go_ret;exact⟨rfl,bG.out⟩
def Tryz.Ak7:Ig prog 54 96 (gU #[fQ ⟨#[]⟩,fQ ⟨#[]⟩]) 2 32:=⟨underlying54,by kernel_rfl,rfl⟩
def Ac9(l:List Pr)(A:Option Addr)(c:Nat)(w:World)(L:l.length<=100000)(h:PrR w A l):
 Calls prog 20 #[fD A l.length c] w λI B=>∃e,I=gY e/\B.ownsRow w.heap.size 96 2 e l.length (Gw l)/\η w B:=by
 have D:=Ac h;obtain⟨d,k⟩:=ε l.length;have q:=Ac k;rw[<-k]at L⊢;clear h k;go_enter func20,ntmps20
 go_wp2_with fail
 go_loopw [3,8](λe m wr=>∃a:Nat,a<=d/\m=fP gZ (a:Nat)/\wr.ownsRow w.heap.size 96 2 e a (Gw (l.take a))/\η w wr)(λ_ m _=>d-(intOf m).toNat)
 case atStart=>exact⟨0,Nat.zero_le _,rfl,World.ownsRow_nil _ _ _ _,Below.refl _ _⟩
 case round=>
  obtain⟨a,Z,rfl,y,v⟩:=hrel;have r:=Ac y;have f:=Ac v;clear y v;by_cases M:a<d
  ·have x:a<l.length:=Ω q.out;obtain⟨V,ac,rfl,Y,Q,R⟩:=(D.below f.out).at a x;obtain⟨ab,N,P⟩:=ltT M;have aa:=wk1 a O1;have E:Hid (Gw (l.take (a+1))=Gw (l.take a)++uk l[a]):=Ac (by rw[List.take_succ_eq_append_getElem x,Ai8]);generalize l[a]=S at*;obtain⟨n,o⟩:=S;simp only at Q R;obtain⟨T,u,j,-⟩:=newB wr 80 [fQ n,fQ o];have i:=Ew r.out j;have g:=τ f.out j;rw[u]at i g;have C:=Ac i;have p:=Ac g;clear u j i g
   go_wp2_with(at_builtin;refine BC rfl (.tmp 12) (.tmp 14) 54 rfl Tryz.Ak7 (wr.alloc (.cells #[fQ n,fQ o] 80)) w.heap.size u3 a (Gw (l.take a)) (uk ⟨n,o⟩) rfl (by exact C.out) rfl _ 1 rfl Θ rfl U (by intro ad z;simp[uk]at z;rcases z with rfl|rfl<;>rfl) O1 U (by exact p.size) ?_;intro X W ae t s J G)
   have H:=Ac t;have F:=Ac (p.trans s);clear t s J G
   go_wp2_with fail
   go_roundw
   case rel=>exact⟨a+1,O1,by go_num,by rw[E.out];exact H.out,F.out⟩
   case measure=>simp[intOf];omega
  ·have K:a=d:=O1;subst K;have N:decide ((a:Int)<(a:Int))=false:=decide_eq_false O1;have P:decide (a<a)=false:=decide_eq_false O1;have b:=r.out;rw[List.take_of_length_le (by rw[<-q.out];omega)]at b;have b:=Ac b
   go_wp2_with fail
   go_ret;exact⟨_,rfl,b.out,f.out⟩
def tk'{P:Program}{b:Array Oper}{d:Exit->Act->World->Prop}{g:Region.Mode}{S:World->Prop}(i:Nat)(v:Value){c:Oper}{fuel:Nat}{f:Array Bool}{a:Act}{w:World}(l:S w)(h:wpAnyH P g b d S fuel (f.setIfInBounds i jm) (a.put c.dst v) w)(hi:b[i]?=iC c:=by rfl)
 (e:(Region.noSelect b&&(Region.free g b f i&&(Region.ready g b f).contains i))=true:=by kernel_rfl)(k:∀j a w,d (.panic j) (a.put c.dst v) w->d (.panic j) a w:=by exact λ_ _ _ h=>h)(n:Region.wanted c (yielded b a.tmps)=true:=by rfl)
 (hy:∀w,S w->(execOp a.eval c).run P w=.ok (.value v) w:=by intro w m;clear m;go_simp):wpAnyH P g b d S (fuel+1) f a w:=by
 rw[Bool.and_eq_true,Bool.and_eq_true]at e;exact wpAnyH_take hi e.1 e.2.1 e.2.2 k (.inl ⟨n,hy⟩) l h
def Ar1(x:An)(A B:Option Addr)(c d:Nat)(w:World)(K:x.pairs.length<=100000)(R:PrR w A x.pairs)(T:PrR w B x.pairs):
 Calls prog 8 #[anW x A c,anW x B d] w λI w'=>I=gY (fU jm)/\η w w':=by
 obtain⟨y,f,v,s,t⟩:=x;unfold anW;simp only at R T K⊢;obtain⟨al,Q,ao,H⟩:=newB w 38 [fQ y,fD A f.length c,fP gZ v,fU s,fP gZ t];obtain⟨q,P,X,F⟩:=newB al 38 [fQ y,fD B f.length d,fP gZ v,fU s,fP gZ t];have J:=τ ao X;have e:al.heap.size=w.heap.size+1:=by rw[Q];simp
 have aa:=H.ξ X;rw[e]at F;have ab:=Ac aa;have ac:=Ac F;have ad:=Ac (λr(D:η q r)=>Ac9 f A c r K ((R.below J).below D));have ae:=Ac (λr(D:η q r)=>Ac9 f B d r K ((T.below J).below D));have N:=Ac (λC Z aX aZ r(a1:PrR r C f)(a2:PrR r Z f)=>Ajb f f C Z aX aZ r O1 a1 a2);rw[cZ Yy]at N;have az:=Ac J;rw[Q]at P;have ah:=Ac P;clear R T P Q ao X J H F aa e;obtain⟨z,L⟩:=ε f.length;rw[<-L]at ad ae N K ah ab ac;rw[<-L];have ap:Hid (∀(w':World)(C:Option Addr),Rd w' C (z*2) (Gw f)->PrR w' C f):=Ac (λw' C h=>by rw[L]at h;exact h);clear L;go_enter func8,ntmps8
 go_wp2_with(rw[<-ah.out])
 go_wp2_with fail
 have G:Hid (∀w',η q w'->(w'.cell? (Φ w.heap.size)=iC (fQ y)/\w'.cell? (Δ w.heap.size 1)=iC (fD A z c)/\w'.cell? (Δ w.heap.size 2)=iC (fP gZ v)/\w'.cell? (Δ w.heap.size 3)=iC (fU s)/\w'.cell? (Δ w.heap.size 4)=iC (fP gZ t)/\w'.cell? (Φ (w.heap.size+1))=iC (fQ y)/\w'.cell? (Δ (w.heap.size+1) 1)=iC (fD B z d)/\w'.cell? (Δ (w.heap.size+1) 2)=iC (fP gZ v)/\w'.cell? (Δ (w.heap.size+1) 3)=iC (fU s)/\w'.cell? (Δ (w.heap.size+1) 4)=iC (fP gZ t))):=Ac (λw' D=>by
  have av:=ab.out.ξ D;have aw:=ac.out.ξ D;obtain⟨aE,aF,aJ,aL,aM⟩:=av.p5;obtain⟨aR,H,F,aV,aW⟩:=aw.p5;exact⟨aE,aF,aJ,aL,aM,aR,H,F,aV,aW⟩)
 have a3:=G q (Below.refl _ _);refine wp_region_held_drew (S:=(λw'=>w'.cell? (Φ w.heap.size)=iC (fQ y)/\w'.cell? (Δ w.heap.size 1)=iC (fD A z c)/\w'.cell? (Δ w.heap.size 2)=iC (fP gZ v)/\w'.cell? (Δ w.heap.size 3)=iC (fU s)/\w'.cell? (Δ w.heap.size 4)=iC (fP gZ t)/\w'.cell? (Φ (w.heap.size+1))=iC (fQ y)/\w'.cell? (Δ (w.heap.size+1) 1)=iC (fD B z d)/\w'.cell? (Δ (w.heap.size+1) 2)=iC (fP gZ v)/\w'.cell? (Δ (w.heap.size+1) 3)=iC (fU s)/\w'.cell? (Δ (w.heap.size+1) 4)=iC (fP gZ t))) Γ a3 (λa=>?_);refine tk' 0 (gV (iC (Φ w.heap.size))) a ?_;refine tk' 1 (fQ y) a (hy:=λw b=>by obtain⟨g,e,i,j,k,l,m,n,o,p⟩:=b;go_simp) ?_;refine tk' 2 (gV (iC (Φ (w.heap.size+1)))) a ?_;refine tk' 3 (fQ y) a (hy:=λw b=>by obtain⟨g,e,i,j,k,l,m,n,o,p⟩:=b;go_simp) ?_
 try simp only[Act.put,Aq,Aj,Ai,Af,Ak,Au]
 refine tk' 4 (fU jm) a (hy:=λw b=>by obtain⟨g,e,i,j,k,l,m,n,o,p⟩:=b;go_simp) ?_;refine tk' 5 (fU jm) a ?_
 try simp only[Act.put,Aq,Aj,Ai,Af,Ak,Au]
 refine tk' 6 (gV (iC (Δ w.heap.size 1))) a ?_;refine tk' 7 (fD A z c) a (hy:=λw b=>by obtain⟨g,e,i,j,k,l,m,n,o,p⟩:=b;go_simp) ?_;refine tk' 9 (gV (iC (Δ (w.heap.size+1) 1))) a ?_;refine tk' 10 (fD B z d) a (hy:=λw b=>by obtain⟨g,e,i,j,k,l,m,n,o,p⟩:=b;go_simp) ?_
 try simp only[Act.put,Aq,Aj,Ai,Af,Ak,Au]
 refine wpAnyH_ready (rs:=[8]) Γ Θ ?_;refine AllReadyH.cons rfl (λE u=>?_) AllReadyH.nil;go_simp;go_at_call 20;refine(ad _ ((Dr.drew q).below _)).mono ?_;rintro I a9⟨bd,rfl,a4,am⟩;obtain⟨aq,bb,rfl,_,a8⟩:=own_rowk a4;have M:η q a9:=((Dr.drew q).below _).trans am;refine u.out _ _ (G _ M) (λa=>?_);clear u E
 try simp only[Act.put,Aq,Aj,Ai,Af,Ak,Au]
 refine wpAnyH_ready (rs:=[11]) Γ Θ ?_;refine AllReadyH.cons rfl (λE u=>?_) AllReadyH.nil;go_simp;go_at_call 20;refine(ae _ M).mono ?_;rintro I Y⟨be,rfl,a5,U⟩;obtain⟨ar,bc,rfl,_,a0⟩:=own_rowk a5;have V:η q Y:=τ M U;have a6:PrR Y aq f:=Rd.below (ap _ _ a8) U;have a7:PrR Y ar f:=ap _ _ a0;refine u.out _ _ (G _ V) (λa=>?_);clear u E
 try simp only[Act.put,Aq,Aj,Ai,Af,Ak,Au]
 refine wpAnyH_ready (rs:=[12]) Γ Θ ?_;refine AllReadyH.cons rfl (λE u=>?_) AllReadyH.nil;go_simp;go_at_call 19;refine(N _ _ _ _ _ a6 a7).mono ?_;rintro I ba⟨rfl,an⟩;have W:η q ba:=V.trans (an.below _);refine u.out _ _ (G _ W) (λa=>?_);clear u E
 try simp only[Act.put,Aq,Aj,Ai,Af,Ak,Au]
 refine tk' 13 (fU jm) a ?_;refine tk' 14 (fU jm) a ?_
 try simp only[Act.put,Aq,Aj,Ai,Af,Ak,Au]
 refine tk' 15 (gV (iC (Δ w.heap.size 2))) a ?_;refine tk' 16 (fP gZ v) a (hy:=λw b=>by obtain⟨g,e,i,j,k,l,m,n,o,p⟩:=b;go_simp) ?_;refine tk' 17 (gV (iC (Δ (w.heap.size+1) 2))) a ?_;refine tk' 18 (fP gZ v) a (hy:=λw b=>by obtain⟨g,e,i,j,k,l,m,n,o,p⟩:=b;go_simp) ?_
 try simp only[Act.put,Aq,Aj,Ai,Af,Ak,Au]
 refine tk' 19 (fU jm) a (hy:=λw b=>by obtain⟨g,e,i,j,k,l,m,n,o,p⟩:=b;go_simp) ?_;refine tk' 20 (fU jm) a ?_;refine tk' 21 (fU jm) a ?_
 try simp only[Act.put,Aq,Aj,Ai,Af,Ak,Au]
 refine tk' 22 (gV (iC (Δ w.heap.size 3))) a ?_;refine tk' 23 (fU s) a (hy:=λw b=>by obtain⟨g,e,i,j,k,l,m,n,o,p⟩:=b;go_simp) ?_;refine tk' 24 (gV (iC (Δ (w.heap.size+1) 3))) a ?_;refine tk' 25 (fU s) a (hy:=λw b=>by obtain⟨g,e,i,j,k,l,m,n,o,p⟩:=b;go_simp) ?_
 try simp only[Act.put,Aq,Aj,Ai,Af,Ak,Au]
 refine tk' 26 (fU jm) a (hy:=λw b=>by obtain⟨g,e,i,j,k,l,m,n,o,p⟩:=b;go_simp) ?_;refine tk' 27 (fU jm) a ?_;refine tk' 28 (fU jm) a ?_
 try simp only[Act.put,Aq,Aj,Ai,Af,Ak,Au]
 refine tk' 29 (gV (iC (Δ w.heap.size 4))) a ?_;refine tk' 30 (fP gZ t) a (hy:=λw b=>by obtain⟨g,e,i,j,k,l,m,n,o,p⟩:=b;go_simp) ?_;refine tk' 31 (gV (iC (Δ (w.heap.size+1) 4))) a ?_;refine tk' 32 (fP gZ t) a (hy:=λw b=>by obtain⟨g,e,i,j,k,l,m,n,o,p⟩:=b;go_simp) ?_
 try simp only[Act.put,Aq,Aj,Ai,Af,Ak,Au]
 refine tk' 33 (fU jm) a (hy:=λw b=>by obtain⟨g,e,i,j,k,l,m,n,o,p⟩:=b;go_simp) ?_;refine tk' 34 (fU jm) a ?_;refine tk' 35 (fU jm) a ?_
 try simp only[Act.put,Aq,Aj,Ai,Af,Ak,Au]
 refine wpAnyH_done Γ ?_ _;have aD:=Ac (τ az.out W);clear M V W am U an a
 go_wp2_with fail
 go_ret;exact⟨rfl,aD.out⟩
