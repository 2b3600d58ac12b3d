import Derived.Deep.LoopGhost
import Derived.Test.YtfmkofmaabgbkaaGreatDoorJ12
set_option linter.defProp false
set_option maxHeartbeats 32000000
set_option maxRecDepth 100000
open Go.Lib renaming hid->Ac
open Nat renaming le_refl->Ae,lt_of_not_le->Alc,zero_le->BA,le_trans->Bq,lt_of_lt_of_le->Be,add_assoc->TW
open Go.World renaming ownsRow_nil->CP,cell?_of_block->BI,drew->gm
open List renaming getLast?_eq_getElem?->iI,getElem?_eq_getElem->Ah,length_append->AP,range->Ep,range_succ->UF,length_filter_le->NH,length_map->CZ,getElem?_cons_zero->Ag,set_cons_zero->Ak,getElem?_cons_succ->Am
open Array renaming getElem?_eq_some_iff->AA
open UInt64 renaming ofNat->Az,toNat_ofNat'->Ia
open Go.Value renaming slice->fD,int->fP,string->fQ,bool->fU,tuple->gJ
open Go.Ending renaming returned->gY
open Go.IntKind renaming i64->gZ,u64->ig
open Go.Obj renaming cells->iy
open Option renaming some->iC
open Go renaming World->jD
namespace Go.Proofs.YtfmkofmaabgbkaaGreatDoor
open Go.RowKit
open Go.Proofs.Tryz
theorem O1{p:Prop}(h:p:=by first|omega|(simp only[Δ,Φ]at*;omega)):p:=h
def Tryz.Acj:Ig prog 179 200 (.agg #[fP gZ 0,fP ig 0,fP ig 0,fU false,fQ ⟨#[]⟩]) 5 48:=⟨underlying179,by kernel_rfl,rfl⟩
def bZ(s:St)(first:UInt64)(w:jD)(e:Ending)(w':jD):Prop:=
 η w w'/\match IE s first with
  |none=>e=gY (gJ #[fD none 0 0,fP gZ 5])
  |some a=>Lu s a/\∃b,e=gY (gJ #[b,fP gZ 0])/\w'.ownsRow w.heap.size 200 5 b a.length (gX a)
def Am0(s:St)(first:UInt64)(w:jD)(g:Nat)(v a:Value)(wr:jD):Prop:=
 ∃(b:List Lk)(c:UInt64)(d:Nat),a=fP ig (c.toNat:Int)/\Vd s d c b=IE s first/\ES b<d/\ES b<=g/\Lu s b/\wr.ownsRow w.heap.size 200 5 v b.length (gX b)/\η w wr
def RG(a:UInt64): -9223372036854775808<=Bf a/\Bf a<=9223372036854775807:=by
 unfold Bf;simp only[IntKind.wrap,IntKind.bits,IntKind.signed,Bool.true_and,decide_eq_true_eq,show(2:Int)^(64-1)=9223372036854775808 from rfl,show(2:Int)^64=18446744073709551616 from rfl];constructor<;>split<;>omega
def Ew{w w':jD}{base n k:Nat}{e:TypeId}{v:Value}{xs:List Value}(h:w.ownsRow base e k v n xs)(o:η w w'):w'.ownsRow base e k v n xs:=
 Ff h (Kept.of_below (r:=none) o) (by
  rcases h.2 with⟨a,_⟩|⟨d,b,c,a,_⟩
  ·exact .inr (by subst a;rfl)
  ·exact .inl (by subst a;exact λe=>nomatch e))
section
variable{w w':jD}{d p L:Nat}{s:St}{F:Nat->Prop}
def Uj{lm:Mode}(h:EE (.up lm) w d p L s F)(first:UInt64):Calls prog 87 #[ptr0 d,ptr0 p,fP ig (first.toNat:Int)] w (bZ s first w):=by
 have bo:=Ac h;have bl:=Ac (X7 h);have bV:=Ac h.pos;clear h;go_enter func87,ntmps87
 go_wp2_with fail
 refine bl.mono ?_;rintro e cs⟨rfl,rfl⟩;clear bl
 go_wp2_with fail
 go_loopg [8,9](ES [])(λz ch b0 wr=>Am0 s first w z ch b0 wr)
 case atStart=>exact⟨[],first,_,rfl,rfl,by decide,Ae _,Lu.nil s,CP _ _ _ _,Below.refl _ _⟩
 case round=>
  obtain⟨c,x,y,rfl,f,ae,B,aX,bD,o⟩:=hrel;obtain⟨y,rfl⟩:∃b3,y=b3+1:=⟨y-1,O1⟩;rw[Vd]at f;have G:=Ac bD;have V:=Ac o;have bj:=Ac aX;have b9:=aX.few;clear bD o aX;by_cases ac:x.toNat=0
  ·rw[jM ac]at f;have t0:((x.toNat:Int)!=0)=false:=by rw[ac];rfl
   have aw:=Ac f;clear f ac ae B
   go_wp2_with fail
   go_ret2;refine⟨V.out,?_⟩;rw[<-aw.out];exact⟨bj.out,_,rfl,G.out⟩
  ·rw[ku ac]at f;have t0:((x.toNat:Int)!=0)=true:=by rw[bne_iff_ne];omega
   have bw:=RG x;have cd:IntKind.i64.wrap (x.toNat:Int)=Bf x:=rfl;obtain⟨l,bC⟩:=ε (Bf x);rw[<-bC]at cd bw f;have bs:=bo.below V.out;have Y:=Ac (show Calls prog 135 #[ptr0 p,fP gZ l] wr _ from by
    obtain⟨tb,o,n,cT,cH,own,cc,-⟩:=bs;exact aH cc.at l bw)
   clear bC;by_cases A:DD s l=1
   ·rw[ku (by rw[A];exact λh=>h rfl)]at f;rw[A]at Y;obtain⟨b5,br,bG,k⟩:=bV.out;obtain⟨bx,bA,aZ,a0⟩:=jH bG k br A;obtain⟨j,a1⟩:=ε (l.toNat/8);rw[<-a1]at aZ a0 f;have ba:l.toNat/8=j:=a1.symm;have bS:=Ac ba;have bR:=Ac A;have ab:=Ac f;have bh:=Ac ae;have bi:=Ac B;have bX:=Ac (And.intro bx bA);have ap:=Ac (λ(bY:jD)(b6:η w bY)=>mX (bo.below b6) j 8 a0);rw[<-aZ,show((8:Nat):Int)=8 from rfl]at ap;clear aZ a1 ba A f ae B b5 br bG k bx bA a0 bs
    go_wp2_with fail
    refine Y.mono ?_;rintro e bJ⟨rfl,P⟩;have C:=Ac (V.trans (P.below w.heap.size));have bb:=P.below wr.heap.size;have a8:=Ac bb;clear Y P bb
    go_wp2_with fail
    refine(ap bJ C.out).mono ?_;rintro e ci⟨cr,rfl,bB,aL⟩;obtain⟨bN,b1,rfl,b8,bE⟩:=Cj bB;have bg:=Ac (τ C.out aL);have a9:=Ac (τ a8.out aL);have W:=Ac (Aeu (wordsAt s.ws j 8) bN b1 ci b8 bE);clear bB bE aL ap
    go_wp2_with fail
    refine W.mono ?_;rintro e T⟨aM,t⟩;have ar:=Ac (τ bg.out aM);have bc:=τ a9.out aM;have ao:=Ac bc;clear aM W bc a9 a8 bg C;cases Q:OB (wordsAt s.ws j 8)with
    |none=>
     have m:=ab.out;rw[Q]at t m;replace t:e=gY (gJ #[.agg #[fP ig 0,fP ig 0,fU false,fQ ⟨#[]⟩],fU false]):=t;subst t;have m:Hid (none=IE s first):=Ac m;clear Q ab
     go_wp2_with fail
     go_quiet(fail)
     go_wp2_with fail
     go_ret2;refine⟨(ar.alloc ar.size _).trans ((Dr.one _ _).below _),?_⟩;rw[<-m.out];rfl
    |some a=>
     have m:=ab.out;rw[Q]at t m;replace t:e=gY (gJ #[.agg #[fP ig (a.stamp.toNat:Int),fP ig (a.next.toNat:Int),fU a.gone,fQ a.text],fU true]):=t;subst t;have m:=Ac m;have W:=Ac Q;clear Q ab;obtain⟨aa,bH,aR,aq⟩:=newB T 198 [fP ig (a.stamp.toNat:Int),fP ig (a.next.toNat:Int),fU a.gone,fQ a.text];have bL:=τ ar.out aR;have bd:=τ ao.out aR;have az:Hid (∀z,u8.ownBlock=iC z->z<wr.heap.size):=Ac (λz B=>(G.out.lt z B).2);have a2:=Ff G.out (Kept.of_below (r:=none) bd) (by
      rcases G.out.2 with⟨aJ,_⟩|⟨z,cn,co,aJ,_⟩
      ·exact .inr (by subst aJ;rfl)
      ·exact .inl (by subst aJ;exact λe=>nomatch e))
     obtain⟨bO,bq,rfl,cq,R⟩:=Zl a2;obtain⟨ah,al,am,an,_,_,_,_⟩:=CS aq;have J:=Ac a2;have I:=Ac bL;have X:=Ac aq;have aE:=Ac bH;clear aR aq bL bd a2 G bH;obtain⟨n,k⟩:=ε c.length;have bm:=Ac k;rw[<-k]at J;rw[<-k]at b9 az;rw[<-k];by_cases i:ES c<=a.stamp.toNat
     ·have g:=m.out
      dsimp only at g
      rw[jM i]at g;have g:=Ac g;have bt:c≠[]:=λe=>by
       subst e;have:=a.stamp.toNat_lt;have cp:(18446744073709551616:Nat)<=a.stamp.toNat:=i;omega
      obtain⟨b,ca⟩:∃b,n=b+1:=⟨n-1,by have:c.length≠0:=(λe=>bt (List.eq_nil_of_length_eq_zero e));omega⟩;obtain⟨bp,be,rfl,b7,a3,cf,a4,a5,a6⟩:=R.at b O1;have ad:ES c=c[b].rc.stamp.toNat:=by
       unfold ES;rw[iI,Ah O1];simp only[show c.length-1=b by omega]
      rw[ad]at i;subst ca;have cb:IntKind.i64.wrap ((b:Int)+1-1)=(b:Int):=by rw[show(b:Int)+1-1=(b:Int)by omega];exact IntWalk.i64_in _ O1
      have t6:decide (c[b].rc.stamp.toNat<=a.stamp.toNat)=true:=decide_eq_true i;generalize c[b].rc.stamp=ce at*;clear ad R bt k i a3 a4 a5 a6
      go_wp2_with fail
      rw[<-aE.out]
      go_quiet(fail)
      go_wp2_with fail
      go_ret2;refine⟨I.trans ((Dr.one _ _).below _),?_⟩;rw[<-g.out];rfl
     ·have Z:Hid (a.stamp.toNat<ES c):=Ac (Alc i);have g:=m.out
      dsimp only at g
      rw[ku i]at g;have g:=Ac g;have bk:=Ac (bj.step bX.out bR.out (by rw[bS.out];exact W.out) (Alc i));cases n with
      |zero=>
       clear R k
       go_wp2_with fail
       rw[<-aE.out]
       go_quiet(fail)
       obtain⟨q,v⟩:=ε (aa.drewN nq);have r:η aa q:=by rw[v];exact(Dr.one _ _).below _
       have u:=X.out.ξ r;obtain⟨ah,al,am,an,_,_,_,_⟩:=CS u;have aF:=Ac (Ew J.out r);have D:=Ac (τ I.out r);have E:=Ac u;have aV:w.heap.size<=q.heap.size:=D.size;rw[<-v];clear r u v J I X i
       go_wp2_with(at_builtin;refine BC rfl (.tmp 61) (.tmp 65) 179 rfl Tryz.Acj q w.heap.size (fD bO 0 bq) 0 (gX c) [fP gZ l,fP ig (a.stamp.toNat:Int),fP ig (a.next.toNat:Int),fU a.gone,fQ a.text] rfl aF.out rfl q.heap.size 1 rfl rfl rfl U (by intro cg S;simp at S;rcases S with rfl|rfl|rfl|rfl|rfl<;>rfl) O1 U aV ?_;intro b4 b2 a7 N K M aW;have H:CB a7 T.heap.size 198 _:=(M.2 T.heap.size E.lt (λe=>Ψ (az _ e.symm) ao.size)).trans E.out;obtain⟨cj,ck,cl,cm,_,_,_,_⟩:=CS H)
       have aD:=Ac N;have av:=Ac (D.trans K);clear N K M aW H ah al am an
       go_wp2_with fail
       go_roundg(a.stamp.toNat)
       case measure=>have:=Z.out;have:=bi.out;omega
       case rel=>exact⟨c++[⟨l,a⟩],a.next,y,rfl,g.out,by rw[Jt];have:=Z.out;have:=bh.out;show a.stamp.toNat<y;omega,by rw[Jt];exact Ae _,bk.out,by rw[tH,AP,<-bm.out];exact aD.out,av.out⟩
      |succ b=>
       obtain⟨bp,be,rfl,b7,a3,cf,a4,a5,a6⟩:=R.at b O1;have ad:ES c=c[b].rc.stamp.toNat:=by
        unfold ES;rw[iI,Ah O1];simp only[show c.length-1=b by omega]
       have cb:IntKind.i64.wrap ((b:Int)+1-1)=(b:Int):=by rw[show(b:Int)+1-1=(b:Int)by omega];exact IntWalk.i64_in _ O1
       have t6:decide (c[b].rc.stamp.toNat<=a.stamp.toNat)=false:=decide_eq_false O1;generalize c[b].rc.stamp=ce at*;clear ad R k a3 a4 a5 a6
       go_wp2_with fail
       rw[<-aE.out]
       go_quiet(fail)
       obtain⟨q,v⟩:=ε (aa.drewN nq);have r:η aa q:=by rw[v];exact(Dr.one _ _).below _
       have u:=X.out.ξ r;obtain⟨ah,al,am,an,_,_,_,_⟩:=CS u;have aF:=Ac (Ew J.out r);have D:=Ac (τ I.out r);have E:=Ac u;have aV:w.heap.size<=q.heap.size:=D.size;rw[<-v];clear r u v J I X i
       go_wp2_with(at_builtin;refine BC rfl (.tmp 61) (.tmp 65) 179 rfl Tryz.Acj q w.heap.size (fD (iC (Δ bp be)) (b+1) bq) (b+1) (gX c) [fP gZ l,fP ig (a.stamp.toNat:Int),fP ig (a.next.toNat:Int),fU a.gone,fQ a.text] rfl aF.out rfl q.heap.size 1 rfl rfl rfl U (by intro cg S;simp at S;rcases S with rfl|rfl|rfl|rfl|rfl<;>rfl) O1 U aV ?_;intro b4 b2 a7 N K M aW;have H:CB a7 T.heap.size 198 _:=(M.2 T.heap.size E.lt (λe=>Ψ (az _ e.symm) ao.size)).trans E.out;obtain⟨cj,ck,cl,cm,_,_,_,_⟩:=CS H)
       have aD:=Ac N;have av:=Ac (D.trans K);clear N K M aW H ah al am an
       go_wp2_with fail
       go_roundg(a.stamp.toNat)
       case measure=>have:=Z.out;have:=bi.out;omega
       case rel=>exact⟨c++[⟨l,a⟩],a.next,y,rfl,g.out,by rw[Jt];have:=Z.out;have:=bh.out;show a.stamp.toNat<y;omega,by rw[Jt];exact Ae _,bk.out,by rw[tH,AP,<-bm.out];exact aD.out,av.out⟩
   ·rw[jM A]at f;have aw:=Ac f;have t1:(((DD s l:Nat):Int)!=1)=true:=by rw[bne_iff_ne];omega
    clear f ae B
    go_wp2_with fail
    refine Y.mono ?_;rintro e bJ⟨rfl,P⟩;have C:=Ac (V.trans (P.below w.heap.size))
    go_wp2_with fail
    go_ret2;refine⟨C.out,?_⟩;rw[<-aw.out];rfl
end
def Tryz.X9:Ig prog 42 3 (fP gZ 0) 1 8:=⟨underlying42,by kernel_rfl,rfl⟩
def qg(l:List Nat):List Value:=l.map λa=>fP gZ ((a:Nat):Int)
def Ack(l:List Nat)(a:Nat):qg (l++[a])=qg l++[fP gZ (a:Int)]:=by simp[qg]
def Aez(x:Nat)(w:jD)(D:x<18446744073709551616):Calls prog 60 #[fP ig (x:Int)] w λb w'=>∃G,b=gY G/\w'.ownsRow w.heap.size 3 1 G (UJ x).length (qg (UJ x))/\η w w':=by
 have m:=Ac (H7 x w D);have E:=Ac (λi=>GU (Ba x) i (Ω (Ou x)));have ab:=Js (Ba x);have K:=Ac (λi u(aa:u<16)=>Tn x u i D O1);have y:UJ x=(Ep (Bi (Ba x))).filter (EM x):=rfl;rw[y];clear y;generalize Bi (Ba x)=e at*;generalize Ba x=W at*;go_enter func60,ntmps60
 go_wp2_with fail
 refine m.mono ?_;rintro b S⟨rfl,v⟩;have J:=Ac (v.below w.heap.size);clear m v
 go_wp2_with fail
 refine(E S).mono ?_;rintro b al⟨rfl,rfl⟩;clear E
 go_wp2_with fail
 go_loopw [3,8](λF l wr=>∃a:Nat,a<=e/\l=fP gZ (a:Nat)/\wr.ownsRow w.heap.size 3 1 F ((Ep a).filter (EM x)).length (qg ((Ep a).filter (EM x)))/\η w wr)(λ_ l _=>e-(intOf l).toNat)
 case atStart=>exact⟨0,BA _,rfl,CP _ _ _ _,J.out⟩
 case round=>
  obtain⟨a,ad,rfl,B,o⟩:=hrel;have c:=Ac B;have f:=Ac o;clear B o;by_cases A:a<e
  ·obtain⟨ah,Q,R⟩:=ltT A;have ae:IntKind.i64.wrap ((a:Int)+1)=(a:Int)+1:=wrap64 _ O1 O1;have d:Hid ((Ep (a+1)).filter (EM x)=if EM x a then(Ep a).filter (EM x)++[a]else(Ep a).filter (EM x)):=Ac (by
    rw[UF,List.filter_append];simp only[List.filter_cons,List.filter_nil];split<;>simp)
   have ac:((Ep a).filter (EM x)).length<=16:=Bq (NH _ _) (by simp;omega);have n:=Ac (K wr a O1);generalize(Ep a).filter (EM x)=p at*
   go_wp2_with fail
   refine n.mono ?_;rintro b H⟨rfl,k⟩;have g:=Ac (f.trans (k.below w.heap.size));have s:=Ac (Ff c.out (Kept.of_below (r:=none) (k.below _)) (by
    rcases c.out.2 with⟨j,_⟩|⟨Y,V,X,j,_⟩
    ·exact .inr (by subst j;rfl)
    ·exact .inl (by subst j;exact λb=>nomatch b)))
   clear n k c f;cases z:EM x a with
   |true=>
    rw[z,jM rfl]at d
    go_wp2_with(at_builtin;refine BC rfl (.tmp 14) (.tmp 16) 42 rfl Tryz.X9 H w.heap.size u3 p.length (qg p) [fP gZ (a:Int)] rfl (by exact s.out) rfl H.heap.size 1 rfl rfl rfl U (by intro F C;simp at C;subst C;rfl) O1 U (by exact g.size) ?_;intro Z T am t q N M)
    have L:=Ac t;have I:=Ac (g.trans q);clear t q N M
    go_wp2_with fail
    go_roundw
    case rel=>exact⟨a+1,O1,by go_num,by rw[d.out,AP,Ack];exact L.out,I.out⟩
    case measure=>simp[intOf];omega
   |false=>
    rw[z]at d
    go_wp2_with fail
    go_roundw
    case rel=>exact⟨a+1,O1,by go_num,by rw[d.out];exact s.out,g.out⟩
    case measure=>simp[intOf];omega
  ·obtain⟨Q,R⟩:=qA A;have P:a=e:=O1;subst P
   go_wp2_with fail
   go_ret;exact⟨_,rfl,c.out,f.out⟩
section
variable{w w':jD}{d p L:Nat}{s:St}{tb o n cT cH:Nat}
def Zm(s:St)(i:Nat):List Nat:=(UJ (GZ s i)).map λa=>Df s.sh i (Ba (GZ s i)) a
def Sz(s:St)(i:Nat):List Nat:=(Ep i).flatMap (Zm s)
def cu(s:St)(i:Nat):Sz s (i+1)=Sz s i++Zm s i:=by simp[Sz,UF]
def tK(s:St)(i:Nat):(Zm s i).length<=16:=by
 unfold Zm;rw[CZ];exact Bq (NH _ _) (by simp[Js])
def jK(s:St):∀a,(Sz s a).length<=16*a
 |0=>by simp[Sz]
 |a+1=>by rw[cu,AP];have:=jK s a;have:=tK s a;omega
def tN(h:IX w d p L s tb o n cT cH):Calls prog 31 #[ptr0 p] w λc w'=>∃aW,c=gY aW/\w'.ownsRow w.heap.size 3 1 aW (allP s).length (qg (allP s))/\η w w':=by
 have ar:=Ac (Hf h);have ae:=Ac h;have b5:=h.y5;have bG:n<=64:=Ξ h.ok.fits h.L1 h.iZ;have aD:allP s=Sz s n:=by unfold allP Sz;rw[h.Rj];rfl
 rw[aD];clear h aD;go_enter func31,ntmps31
 go_wp2_with fail
 refine ar.mono ?_;rintro c b4⟨rfl,rfl⟩;clear ar
 go_wp2_with fail
 go_loopw [3,15](λD l wr=>∃b:Nat,b<=n/\l=fP gZ (b:Nat)/\wr.ownsRow w.heap.size 3 1 D (Sz s b).length (qg (Sz s b))/\η w wr)(λ_ l _=>n-(intOf l).toNat)
 case atStart=>exact⟨0,BA _,rfl,CP _ _ _ _,Below.refl _ _⟩
 case round=>
  obtain⟨b,bR,rfl,C,o⟩:=hrel;have t:=Ac C;have G:=Ac o;clear C o;by_cases M:b<n
  ·obtain⟨b1,bx,bA⟩:=ltT M;have b0:IntKind.i64.wrap ((b:Int)+1)=(b:Int)+1:=wrap64 _ O1 O1;have b6:=(ae.below G.out).tk b M;have aV:=Rk s b;have bq:=Ou (GZ s b);have bL:=jK s b;have aq:=Ac (Aez (GZ s b) wr aV);have bb:=Ac (λV=>H7 (GZ s b) V aV);have a6:=Ac (λ(V:jD)a(bo:η w V)(Y:a<=16)=>Vp (ae.below bo) b (Ba (GZ s b)) a M bq Y);have bg:Hid (Sz s (b+1)=Sz s b++(UJ (GZ s b)).map λa=>Df s.sh b (Ba (GZ s b)) a):=Ac (cu s b);have bt:∀a∈UJ (GZ s b),a<=16:=λa Y=>by
    have:=List.mem_range.1 (List.mem_filter.1 Y).1;have:=Js (Ba (GZ s b));omega
   have bS:(UJ (GZ s b)).length<=16:=Bq (NH _ _) (by simp[Js]);generalize UJ (GZ s b)=e at*;generalize Ba (GZ s b)=g at*;generalize GZ s b=x at*;generalize Sz s b=i at*
   go_wp2_with fail
   refine aq.mono ?_;rintro c aX⟨bD,rfl,aa,Z⟩;have az:∀P av,bD=fD P e.length av->∀a,P=iC a->wr.heap.size<=a.block/\a.block<aX.heap.size:=λP av c a k=>by
    rcases aa.2 with⟨f,_⟩|⟨J,H,I,f,X,y,_⟩
    ·rw[f,k]at c;cases c
    ·rw[f,k]at c;injection c with c
     injection c with c
     rw[<-c];exact⟨X,(AA.1 y).1⟩
   obtain⟨F,bh,rfl,bO,aL⟩:=Cj aa;have z:∀a,F=iC a->a.block<aX.heap.size/\u3.ownBlock≠iC a.block:=λa k=>by
    obtain⟨f,X⟩:=az F bh rfl a k;refine⟨X,λc=>?_⟩;rcases t.out.2 with⟨y,_⟩|⟨J,H,I,y,_,bm,_⟩
    ·rw[y]at c;cases c
    ·rw[y]at c;injection c with c
     have:=(AA.1 bm).1;simp only at c;omega
   have ad:=Ac z;clear az z;have a7:=Ac aL;have a4:=Ac (τ G.out Z);have be:=Ac (Ff t.out (Kept.of_below (r:=none) Z) (by
    rcases t.out.2 with⟨f,_⟩|⟨J,H,I,f,_⟩
    ·exact .inr (by subst f;rfl)
    ·exact .inl (by subst f;exact λc=>nomatch c)))
   clear aq aa Z aL t G
   go_wp2_with fail
   go_loopw [3,23](λD l wr=>∃j:Nat,j<=e.length/\l=fP gZ (j:Nat)/\wr.ownsRow w.heap.size 3 1 D (i++(e.take j).map λa=>Df s.sh b g a).length (qg (i++(e.take j).map λa=>Df s.sh b g a))/\η w wr/\Rd wr F e.length (qg e)/\∀a,F=iC a->a.block<wr.heap.size/\D.ownBlock≠iC a.block)(λ_ l _=>e.length-(intOf l).toNat)
   case atStart=>exact⟨0,BA _,rfl,by simpa using be.out,a4.out,a7.out,ad.out⟩
   case round=>
    obtain⟨j,aJ,rfl,C,o,aM,z⟩:=hrel;have v:=Ac C;have R:=Ac o;have ah:=Ac aM;have a1:=Ac z;clear C o aM z ad;by_cases q:j<e.length
    ·obtain⟨b2,bB,bC⟩:=ltT q;have bY:IntKind.i64.wrap ((j:Int)+1)=(j:Int)+1:=wrap64 _ O1 O1;obtain⟨m,ab,rfl,bN,aF⟩:=ah.2 O1;have a0:=aF j q;rw[qg,List.getElem?_map,Ah q]at a0;simp only[Option.map_some]at a0;clear aF;have bp:=bt e[j] (List.getElem_mem q);have ba:Hid (i++(e.take (j+1)).map (λa=>Df s.sh b g a)=i++(e.take j).map (λa=>Df s.sh b g a)++[Df s.sh b g e[j]]):=Ac (by
      rw[List.take_succ_eq_append_getElem q,List.map_append,List.append_assoc];rfl)
     have bV:(i++(e.take j).map λa=>Df s.sh b g a).length<=2000:=by
      simp only[AP,CZ,List.length_take];omega
     generalize e[j]=a at*;generalize(i++(e.take j).map λa=>Df s.sh b g a)=ao at*
     go_wp2_with fail
     refine(bb wr).mono ?_;rintro c bE⟨rfl,A⟩;have Q:=A.below w.heap.size;have T:=Ac (R.trans (A.below w.heap.size));have ac:=Ac (a6 bE a T.out bp);have u:=Ac (Ff v.out (Kept.of_below (r:=none) (A.below _)) (by
      rcases v.out.2 with⟨f,_⟩|⟨J,H,I,f,_⟩
      ·exact .inr (by subst f;rfl)
      ·exact .inl (by subst f;exact λc=>nomatch c)))
     clear v R
     go_wp2_with fail
     refine ac.mono ?_;rintro c E⟨rfl,B⟩;have a5:=Ac (T.trans (B.below w.heap.size));have bk:=Ac (Ff u.out (Kept.of_below (r:=none) (B.below _)) (by
      rcases u.out.2 with⟨f,_⟩|⟨J,H,I,f,_⟩
      ·exact .inr (by subst f;rfl)
      ·exact .inl (by subst f;exact λc=>nomatch c)))
     have al:=a5;have bX:wr.heap.size<=E.heap.size:=Bq (Q.size) (B.below w.heap.size).size;have aw:Rd E (iC (Δ m ab)) e.length (qg e):=Rd.below ah.out ((A.below _).trans ((B.below _).mono Q.size));have S:=Ac aw;clear ac B u T aw A Q
     go_wp2_with(at_builtin;refine BC rfl (.tmp 27) (.tmp 34) 42 rfl Tryz.X9 E w.heap.size u3 ao.length (qg ao) [fP gZ ((Df s.sh b g a:Nat):Int)] rfl (by exact bk.out) rfl E.heap.size 1 rfl rfl rfl U (by intro D aR;simp at aR;subst aR;rfl) O1 U (by exact al.out.size) ?_;intro bl bJ aZ an am K ap)
     have bd:=Ac an;have bc:=Ac (al.out.trans am);have N:=(a1 _ rfl).2;simp only at N;have a8:Hid (Rd aZ (iC (Δ m ab)) e.length (qg e)):=Ac (by
      refine⟨S.1,λbw=>?_⟩;obtain⟨bH,b3,W,aE,a2⟩:=S.2 bw;injection W with W
      injection W with bi bj
      subst bi bj;exact⟨m,ab,rfl,Be aE K.1,λj aJ=>(BI (w:=E) (K.2 m aE (λc=>N c.symm))).trans (a2 j aJ)⟩)
     have a3:Hid (m<aZ.heap.size/\iC bl≠iC m):=Ac (by
      refine⟨Ω K.1,λc=>?_⟩;injection c with c
      rcases ap with h|h
      ·exact N (by rw[h,c])
      ·omega)
     clear an am K ap N S
     go_wp2_with fail
     go_roundw
     case rel=>exact⟨j+1,O1,by go_num,by rw[ba.out,AP,Ack];exact bd.out,bc.out,a8.out,λa k=>by injection k with k;subst k;exact a3.out⟩
     case measure=>simp[intOf];omega
    ·obtain⟨bB,bC⟩:=qA q;have br:j=e.length:=O1;subst br;have u:Hid (wr.ownsRow w.heap.size 3 1 u3 (i++e.map λa=>Df s.sh b g a).length (qg (i++e.map λa=>Df s.sh b g a))):=Ac (by have:=v.out;rwa [List.take_length]at this);have a9:=R;clear v
     go_wp2_with fail
     go_roundw
     case rel=>exact⟨b+1,O1,by go_num,by rw[bg.out];exact u.out,a9.out⟩
     case measure=>simp[intOf];omega
  ·obtain⟨bx,bA⟩:=qA M;have bs:b=n:=O1;subst bs
   go_wp2_with fail
   go_ret;exact⟨_,rfl,t.out,G.out⟩
end
def Am2(b c d:Nat)(a:jD)(u:FrameMode)(h:a.cell? (Φ b)=iC (fP gZ 0)):
 CallsD prog 263 #[ptr0 b,ptr0 c,ptr0 d] u a λe f w'=>f=u/\(e=gY (gJ #[])/\w'=a):=by
 go_enter_d func263,ntmps263
 go_wp2;go_end0;exact⟨rfl,rfl⟩
def EE.Nq{m:Dq}{w:jD}{d p L:Nat}{s:St}{F:Nat->Prop}(h:EE m w d p L s F){b:Nat}(i:Nat)(v:Value)(o:¬F b)(e:b≠0)(f:b≠1):EE m (w.setCell (Δ b i) v) d p L s F:=
 h.keep (G:=λc=>c=b) ((Touch.refl (λc=>c=b) w).setCell (p:=Δ b i) (.inl rfl) v) (λ_ g a=>o (a▸g)) (λa=>e a.symm) (λa=>f a.symm)
def IZ(q:Ms)(r:Rc):Ms×UInt64×Int:=
 if DZ r=false then(q,0,2)else
 match DT q.s 1 with
 |none=>(q,0,6)
 |some (a,f)=>
  match JE ⟨q.pw,f⟩ (Lp (a/8) 8) (BX f.ws (a/8) (Ee r))with
  |(d,b)=>if b=0 then(match IM d a with|(e,c)=>if c=0 then(e,Az a,0)else((Dz e a).1,0,c))else((Dz d a).1,0,b)
def Ai3(s:St)(r:Rc):IZ ⟨.up (-1),s⟩ r=(⟨.up (-1),(MG s r).1⟩,(MG s r).2):=by
 unfold IZ MG;cases DZ r
 ·rfl
 ·simp only[Bool.true_eq_false,if_false];cases DT s 1 with
  |none=>rfl
  |some a=>
   obtain⟨b,c⟩:=a;simp only[Rl,jd,if_true];split
   ·rfl
   ·rw[Ox]
def Acl{q:Ms}{d p L:Nat}{F:Nat->Prop}(c e f:Nat)(off er:Int)(a:jD)(u:FrameMode)(h:a.cell? (Φ c)=iC (fP gZ er))(i:er≠0)(h1:a.cell? (Φ e)=iC (ptr0 p))(h2:a.cell? (Φ f)=iC (fP gZ off))
 (j:KF a d p L q F)(l: -9223372036854775808<=off/\off<=9223372036854775807):
 CallsD prog 263 #[ptr0 c,ptr0 e,ptr0 f] u a λg n w'=>n=u/\(g=gY (gJ #[])/\∃b,KF w' d p L (Dz q off).1 b/\AL F b a w'):=by
 have k:=Ac (KG j off l);have t1:(er==0)=false:=ζ i;clear j i
 go_enter_d func263,ntmps263
 go_wp2_with fail
 refine k.mono ?_;rintro g r⟨rfl,m⟩
 go_wp2_with fail
 go_end0;exact⟨rfl,m⟩
def tV(q:Ms)(r:Rc)(d p L:Nat)(F:Nat->Prop)(w:jD)(e:Ending)(w':jD):Prop:=
 e=gY (gJ #[fP ig ((IZ q r).2.1.toNat:Int),fP gZ (IZ q r).2.2])/\∃a,KF w' d p L (IZ q r).1 a/\AL F a w w'
section
variable{w w':jD}{d p L:Nat}{s:St}{F:Nat->Prop}{q:Ms}
def Ae0(h:KF w d p L q F)(r:Rc)(cS:r.text.size<=4294967296):
 Calls prog 260 #[ptr0 d,ptr0 p,rcV r] w (tV q r d p L F w):=by
 obtain⟨S,W⟩:=ε (((w.alloc (iy #[ptr0 p] 67)).alloc (iy #[fP ig (r.stamp.toNat:Int),fP ig (r.next.toNat:Int),fU r.gone,fQ r.text] 198)).alloc (iy #[fP gZ 0] 36));have bt:η w S:=by
  rw[W];exact(((Below.refl _ _).alloc (Ae _) _).alloc Θ _).alloc (by simp;omega) _
 have cT:S.heap.size=w.heap.size+3:=by rw[W];simp
 have g:CB S w.heap.size 67 [ptr0 p]:=by
  rw[W];exact(χ _ _ (by simp;omega)).trans ((χ _ _ Θ).trans (heap_alloc_new _ _))
 have K:CB S (w.heap.size+1) 198 [fP ig (r.stamp.toNat:Int),fP ig (r.next.toNat:Int),fU r.gone,fQ r.text]:=by
  rw[W];have:=heap_alloc_new (w.alloc (iy #[ptr0 p] 67)) (iy #[fP ig (r.stamp.toNat:Int),fP ig (r.next.toNat:Int),fU r.gone,fQ r.text] 198);rw[show(w.alloc (iy #[ptr0 p] 67)).heap.size=w.heap.size+1 by simp]at this;exact(χ _ _ Θ).trans this
 have b:CB S (w.heap.size+1+1) 36 [fP gZ 0]:=by
  rw[W];have:=heap_alloc_new ((w.alloc (iy #[ptr0 p] 67)).alloc (iy #[fP ig (r.stamp.toNat:Int),fP ig (r.next.toNat:Int),fU r.gone,fQ r.text] 198)) (iy #[fP gZ 0] 36);rw[show((w.alloc (iy #[ptr0 p] 67)).alloc (iy #[fP ig (r.stamp.toNat:Int),fP ig (r.next.toNat:Int),fU r.gone,fQ r.text] 198)).heap.size=w.heap.size+1+1 by simp]at this;exact this
 obtain⟨b8,bi⟩:∃m,m=w.heap.size+1:=⟨_,rfl⟩;obtain⟨a,bj⟩:∃m,m=w.heap.size+1+1:=⟨_,rfl⟩;rw[<-bj]at b;rw[<-bi]at K;have x:=g.cell 0;have y:=b.cell 0;have f2:=b.frozen 0;obtain⟨c2,c3,c4,c5,_,_,_,_⟩:=CS K;simp only[Ag]at x y;have aa:=Ac h;have bR:=Ac bt;have bX:=Ac (X7 (h.below bt));have bm:=Ac (jo r S cS);have a6:=Ac g;have cC:=Ac K;have av:=Ac b;have cF:=Ac W;have cA:=Ac bi;have cB:=Ac bj;have c8:w.heap.size<b8/\b8<a/\a<S.heap.size:=O1;have aD:=Ac h.lt;unfold rcV at bm⊢;clear h bt cT g K b W;obtain⟨B,s⟩:=q
 go_enter_defers func260,ntmps260
 go_wp2_with fail
 rw[<-cF.out,<-cB.out,<-cA.out];refine bX.mono ?_;rintro l c1⟨rfl,rfl⟩;clear bX bi bj
 go_wp2_with fail
 refine bm.mono ?_;rintro l c1⟨ad,ae⟩;have a5:=Ac (τ bR.out ad);have g:=a6.out.ξ ad;have K:=cC.out.ξ ad;have b:=av.out.ξ ad;replace x:=g.cell 0;replace y:=b.cell 0;replace f2:=b.frozen 0;simp only[Ag]at x y;have c9:=ad.size;clear bm ad c2 c3 c4 c5;cases P:DZ r with
 |false=>
  rw[P]at ae;replace ae:l=gY (gJ #[fD none 0 0,fU false]):=ae;subst ae;have u:Hid (IZ ⟨B,s⟩ r=(⟨B,s⟩,0,2)):=Ac (by unfold IZ;rw[jM P]);have bS:=Ac (a5.setCell (p:=Φ a) (by show _<=a;omega) (fP gZ 2));have i:=b.AX 0 (fP gZ 2);have n:=i.cell 0;simp only[Ak,Ag]at n;clear P g K b i
  go_wp2_with fail
  refine⟨gJ #[fP ig 0,fP gZ 2],by simp[results,results260,go_sem,n],?_,F,?_,AL.of_below bS.out⟩
  ·rw[u.out];rfl
  ·rw[u.out];exact EE.below aa.out bS.out
 |true=>
  rw[P,jM rfl]at ae;obtain⟨aL,rfl,bA⟩:=ae;have bp:=Ac bA;have a8:=Ac (Wq (aa.below a5.out) 1 U U);have cD:=Ac P;have a6:=Ac g;have av:=Ac b;cases I:DT s 1 with
  |none=>
   have aW:resV s 1=gJ #[fP gZ 0,fP gZ 6]:=by unfold resV;rw[I]
   have aV:Vx s 1=s:=by unfold Vx;rw[I]
   rw[aW,aV]at a8;have u:Hid (IZ ⟨B,s⟩ r=(⟨B,s⟩,0,6)):=Ac (by unfold IZ;rw[ku (by rw[P];exact λl=>nomatch l)];simp only[I]);clear aW aV I P bA g K b
   go_wp2_with fail
   refine a8.mono ?_;rintro l J⟨rfl,aR,z⟩;have A:¬F a:=λt=>Ω (aD a t)
   have b:=av.touch z.touch A;have bb:CB (J.alloc (iy #[fP gZ 0] 3)) a 36 [fP gZ 0]:=(χ _ _ b.lt).trans b;have i:=bb.AX 0 (fP gZ 6);have aJ:=bb.cell 0;have bs:=bb.frozen 0;have n:=i.cell 0;have f3:=i.frozen 0;simp only[Ak,Ag]at n aJ;have D:η J (J.alloc (iy #[fP gZ 0] 3)):=(Below.refl _ _).alloc (Ae _) _;have cb:0<w.heap.size/\1<w.heap.size:=aa.tabs.lt;have cn:Hid (KF ((J.alloc (iy #[fP gZ 0] 3)).setCell (Φ a) (fP gZ 6)) d p L ⟨B,s⟩ F):=Ac ((EE.below aR D).Nq 0 _ A O1 O1);have co:Hid (AL F F w ((J.alloc (iy #[fP gZ 0] 3)).setCell (Φ a) (fP gZ 6))):=Ac (((AL.of_below (F:=F) a5.out).trans (z.below D)).set (p:=Φ a) (.inr (by show _<=a;omega)) _);have cp:=Ac (cn.Nq 0 (fP gZ 6) A O1 O1);have cq:=Ac (co.set (p:=Φ a) (.inr (by show _<=a;omega)) (fP gZ 6));clear b bb i D cb aR z A
   go_wp2_with fail
   go_region
   all_goals(go_wp2_with fail)
   all_goals(refine⟨gJ #[fP ig 0,fP gZ 6],by simp[results,results260,go_sem,n],by rw[u.out];rfl,F,?_,cq.below ((Dr.drew _).below _)⟩)
   all_goals(rw[u.out])
   all_goals(exact EE.below cp.out ((Dr.drew _).below _))
  |some cX=>
   obtain⟨c,ao⟩:=cX;have aW:resV s 1=gJ #[fP gZ (c:Int),fP gZ 0]:=by unfold resV;rw[I]
   have aV:Vx s 1=ao:=by unfold Vx;rw[I]
   rw[aW,aV]at a8;obtain⟨_,_,ck,bO⟩:=aa.pos;obtain⟨al,cc,cd⟩:=bU ck bO (.inl rfl) I;obtain⟨⟨an,e⟩,bB⟩:∃bG,bG=JE ⟨B,ao⟩ (Lp (c/8) 8) (BX ao.ws (c/8) (Ee r)):=⟨_,rfl⟩;have u:Hid (IZ ⟨B,s⟩ r=if e=0 then(match IM an c with|(am,l)=>if l=0 then(am,Az c,0)else((Dz am c).1,0,l))else((Dz an c).1,0,e)):=Ac (by
    unfold IZ;rw[ku (by rw[cD.out];exact λl=>nomatch l)];simp only[I,<-bB])
   have a7:=Ac bB;have bo:=Ac cc;have c6:c+64<=64*L/\L<=1024:=⟨by simp only[Bd]at cd;omega,aa.pos.2.1⟩;clear aW aV I P bA g K b ck bO cc cd bB
   go_wp2_with fail
   refine a8.mono ?_;rintro l J⟨rfl,aR,z⟩;have A:¬F a:=λt=>Ω (aD a t)
   have a3:¬F w.heap.size:=λt=>Ω (aD _ t)
   have cN:=z.touch.size;obtain⟨T,ac⟩:=ε (J.alloc (iy #[fP gZ (c:Int)] 3));obtain⟨k,aM⟩:∃m,m=J.heap.size:=⟨_,rfl⟩;have D:η J T:=by rw[ac];exact(Below.refl _ _).alloc (Ae _) _
   have b:=(av.touch z.touch A).below D (av.touch z.touch A).lt;have g:=(a6.touch z.touch a3).below D (a6.touch z.touch a3).lt;have i:CB T k 3 [fP gZ (c:Int)]:=by rw[ac,aM];exact heap_alloc_new _ _
   have ci:Ws T (iC (Φ aL)) 8 (Ee r):=by
    have cJ:=(CQ bp.out).2;have cK:∀bd,iC ((Φ aL):Addr)=iC bd->¬F bd.block:=λbd X t=>by
     obtain⟨cI,H,cM,_⟩:=OE bp.out U;injection H with H
     injection H with H
     injection X with X
     subst X;have:=aD _ t;have:=bR.size;show False;simp only at*;omega
    exact Ws.below (Rd.touch cJ z.touch cK) D
   have cb:0<w.heap.size/\1<w.heap.size:=aa.tabs.lt;have ce:=aR.below D;have c7:a<k:=O1;have bY:=Ac (λ(b6:jD)(h:KF b6 d p L ⟨B,ao⟩ F)(cU:Ws b6 (iC (Φ aL)) 8 (Ee r))=>Yr h al 8 8 (iC (Φ aL)) (Ee r) (Ω bo.out) U cU);have x:=g.cell 0;have y:=b.cell 0;have f2:=b.frozen 0;have n:=i.cell 0;simp only[Ag]at x y n;rw[ac]at x y f2 n;rw[aM]at n;have cf:=ce.Nq 0 (fP gZ 0) A (b:=a) O1 O1;have cj:Ws (T.setCell (Φ a) (fP gZ 0)) (iC (Φ aL)) 8 (Ee r):=by
    refine Rd.touch ci ((Touch.refl (λcW=>cW=a) T).setCell (p:=Φ a) (.inl rfl) _) (λbd X l=>?_);obtain⟨cI,H,cM,_⟩:=OE bp.out U;injection H with H
    injection H with H
    injection X with X
    subst X;simp only at l;omega
   have N:=bY _ cf cj;rw[show 8+((al+8-1)/8-al/8+1)+1=Lp al 8 from rfl]at N;have b9:al=c/8:=Ω bo.out;rw[show((8*al:Nat):Int)=(c:Int)by have:=bo.out;omega,b9,<-a7.out]at N;have N:=Ac N;have aE:=b.AX 0 (fP gZ 0);have bq:=g.far (show w.heap.size≠a by omega) 0 (fP gZ 0);have aF:=i.far (show k≠a by omega) 0 (fP gZ 0);simp only[Ak]at aE;have bx:AL F F w (T.setCell (Φ a) (fP gZ 0)):=((AL.of_below (F:=F) a5.out).trans (z.below D)).set (p:=Φ a) (.inr (by show _<=a;omega)) _;have cH:=aF.p1;rw[ac,aM]at cH;have bJ:=aF.lt;have a4:=aE.lt;obtain⟨b7,br⟩:=ε (T.setCell (Φ a) (fP gZ 0));rw[<-br]at N aE bq aF bx bJ a4;have bV:=Ac bx;have cr:=Ac aE;have cs:=Ac bq;have ct:=Ac aF;have cV:=Ac br;have cG:=Ac ac;have cx:=Ac aM;have bL:¬F k:=λt=>Ω (aD _ t)
   clear b9 cf cj aE bq aF bx br ci ce aR z g b i D bY cN ac aM
   go_wp2_with fail
   rw[<-cG.out,<-cV.out,<-cx.out];refine N.out.mono ?_;rintro l a1⟨rfl,ap,be,M⟩;have b:=cr.touch M.touch A;have g:=cs.touch M.touch a3;have i:=ct.touch M.touch bL;have V:∀m,m<b7.heap.size->¬F m->¬ap m:=λm o cP t=>(M.own m t).elim cP (λh=>O1)
   have ca:e=0\/e=12:=by have:=Ah5 ⟨B,ao⟩ (Lp (c/8) 8) (BX ao.ws (c/8) (Ee r));rw[<-a7.out]at this;exact this
   by_cases a2:e=0
   rotate_left
   ·have t5:(e !=0)=true:=by simpa using a2
    have Q:=V a a4 A;have x:=g.cell 0;have y:=b.cell 0;have f2:=b.frozen 0;have n:=i.cell 0;have v:=b.AX 0 (fP gZ e);have R:=v.AX 0 (fP gZ e);have d2:=v.cell 0;have bs:=v.frozen 0;have E:=R.cell 0;simp only[Ag,Ak]at x y n d2 E;have aw:Hid (KF ((a1.setCell (Φ a) (fP gZ e)).setCell (Φ a) (fP gZ e)) d p L an ap):=Ac ((EE.Nq be 0 (fP gZ e) Q O1 O1).Nq 0 (fP gZ e) Q O1 O1);have ar:=Ac ((((bV.trans M).set (p:=Φ a) (.inr (by show _<=a;omega)) (fP gZ e))).set (p:=Φ a) (.inr (by show _<=a;omega)) (fP gZ e));have Y:=((g.far (show w.heap.size≠a by omega) 0 (fP gZ e)).far (show w.heap.size≠a by omega) 0 (fP gZ e)).cell 0;have Z:=((i.far (show k≠a by omega) 0 (fP gZ e)).far (show k≠a by omega) 0 (fP gZ e)).cell 0;simp only[Ag]at Y Z;have bk:=R.lt;have G:=Ac (And.intro E (And.intro Y Z));have az:Hid (IZ ⟨B,s⟩ r=((Dz an c).1,0,e)):=Ac (by rw[u.out,ku a2]);have cQ:c<=65536:=O1;have cy:=Ac a2;clear be M g b i v R V N E Y Z a2 ca u a7
    go_wp2_with fail
    go_region
    all_goals(go_wp2_with fail)
    all_goals(refine leaves_cons (f:=263) (args:= #[ptr0 a,ptr0 w.heap.size,ptr0 k]) Θ (by simp[go_sem]) ?_)
    all_goals(refine(Acl a w.heap.size k (c:Int) e (gm ((a1.setCell (Φ a) (fP gZ e)).setCell (Φ a) (fP gZ e))) .returning (by exact G.1) cy.out (by exact G.2.1) (by exact G.2.2) (EE.below aw.out ((Dr.drew _).below _)) O1).mono ?_)
    all_goals(rintro l cl bh⟨rfl,rfl,bl,bD,bw⟩)
    all_goals(have aZ:=(AL.of_below ((Dr.drew ((a1.setCell (Φ a) (fP gZ e)).setCell (Φ a) (fP gZ e))).below _)).trans bw)
    all_goals(have bH:bh.cell? (Φ a)=iC (fP gZ e):=(BI (aZ.touch.block a bk Q)).trans G.1)
    all_goals(refine⟨gJ #[fP ig 0,fP gZ e],by simp[results,results260,go_sem,bH],by rw[az.out];rfl,bl,by rw[az.out];exact bD,ar.trans aZ⟩)
   subst a2;clear ca;have cg:KF _ d p L an ap:=EE.Nq be 0 (fP gZ 0) (b:=a) (V a a4 A) O1 O1;obtain⟨⟨a0,j⟩,bC⟩:∃bG,bG=IM an c:=⟨_,rfl⟩;have ah:=aI cg (c:Int) O1;rw[<-bC]at ah;have ah:=Ac ah;have ba:Hid (IZ ⟨B,s⟩ r=if j=0 then(a0,Az c,0)else((Dz a0 c).1,0,j)):=Ac (by rw[u.out,jM rfl,<-bC]);have x:=g.cell 0;have y:=b.cell 0;have f2:=b.frozen 0;have n:=i.cell 0;have v:=b.AX 0 (fP gZ 0);have d0:=(g.far (show w.heap.size≠a by omega) 0 (fP gZ 0)).cell 0;have d3:=(i.far (show k≠a by omega) 0 (fP gZ 0)).cell 0;have d2:=v.cell 0;simp only[Ag,Ak]at x y n d0 d2 d3;have cm:=Ac ((bV.trans M).set (p:=Φ a) (.inr (by show _<=a;omega)) (fP gZ 0));clear be cg;have b4:=g.far (show w.heap.size≠a by omega) 0 (fP gZ 0);have b5:=i.far (show k≠a by omega) 0 (fP gZ 0);have cL:Hid (∀m,m<b7.heap.size->¬F m->¬ap m):=Ac V;have Q:=V a a4 A;have bN:=V k bJ bL;have a9:=Ac v;have b0:=Ac b5;have cE:=Ac b4;clear V M g b i v b4 b5 bC u a7 N
   go_wp2_with fail
   refine ah.out.mono ?_;rintro l bE⟨rfl,aq,bg,C⟩;by_cases aX:j=0
   rotate_left
   ·have t7:(j !=0)=true:=by simpa using aX
    have cv:¬ap w.heap.size:=cL _ O1 a3;have b:=a9.touch C.touch Q;have i:=b0.touch C.touch bN;have g:=cE.touch C.touch cv;have cw:a<(a1.setCell (Φ a) (fP gZ 0)).heap.size:=a9.lt;have ab:¬aq a:=λt=>(C.own a t).elim Q (λh=>O1)
    have aJ:=b.cell 0;have bs:=b.frozen 0;have v:=b.AX 0 (fP gZ j);have R:=v.AX 0 (fP gZ j);have am:=v.cell 0;have c0:=v.frozen 0;have E:=R.cell 0;simp only[Ag,Ak]at aJ am E;have aw:Hid (KF ((bE.setCell (Φ a) (fP gZ j)).setCell (Φ a) (fP gZ j)) d p L a0 aq):=Ac ((EE.Nq bg 0 (fP gZ j) ab O1 O1).Nq 0 (fP gZ j) ab O1 O1);have ar:=Ac ((((cm.trans C).set (p:=Φ a) (.inr (by show _<=a;omega)) (fP gZ j))).set (p:=Φ a) (.inr (by show _<=a;omega)) (fP gZ j));have Y:=((g.far (show w.heap.size≠a by omega) 0 (fP gZ j)).far (show w.heap.size≠a by omega) 0 (fP gZ j)).cell 0;have Z:=((i.far (show k≠a by omega) 0 (fP gZ j)).far (show k≠a by omega) 0 (fP gZ j)).cell 0;simp only[Ag]at Y Z;have bk:=R.lt;have G:=Ac (And.intro E (And.intro Y Z));have az:Hid (IZ ⟨B,s⟩ r=((Dz a0 c).1,0,j)):=Ac (by rw[ba.out,ku aX]);have cQ:c<=65536:=O1;have cz:=Ac aX;clear bg C g b i v R ah E Y Z aX ba x y f2 n d0 d2 d3
    go_wp2_with fail
    go_region
    all_goals(go_wp2_with fail)
    all_goals(refine leaves_cons (f:=263) (args:= #[ptr0 a,ptr0 w.heap.size,ptr0 k]) Θ (by simp[go_sem]) ?_)
    all_goals(refine(Acl a w.heap.size k (c:Int) j (gm ((bE.setCell (Φ a) (fP gZ j)).setCell (Φ a) (fP gZ j))) .returning (by exact G.1) cz.out (by exact G.2.1) (by exact G.2.2) (EE.below aw.out ((Dr.drew _).below _)) O1).mono ?_)
    all_goals(rintro l cl bh⟨rfl,rfl,bl,bD,bw⟩)
    all_goals(have aZ:=(AL.of_below ((Dr.drew ((bE.setCell (Φ a) (fP gZ j)).setCell (Φ a) (fP gZ j))).below _)).trans bw)
    all_goals(have bH:bh.cell? (Φ a)=iC (fP gZ j):=(BI (aZ.touch.block a bk ab)).trans G.1)
    all_goals(refine⟨gJ #[fP ig 0,fP gZ j],by simp[results,results260,go_sem,bH],by rw[az.out];rfl,bl,by rw[az.out];exact bD,ar.trans aZ⟩)
   subst aX;rw[jM rfl]at ba;have u:=ba;have b:=a9.touch C.touch Q;have i:=b0.touch C.touch bN;have cw:a<(a1.setCell (Φ a) (fP gZ 0)).heap.size:=a9.lt;have ab:¬aq a:=λt=>(C.own a t).elim Q (λh=>O1)
   have aJ:=b.cell 0;have bs:=b.frozen 0;have bc:=b.AX 0 (fP gZ 0);have b2:=i.far (show k≠a by omega) 0 (fP gZ 0);have am:=bc.cell 0;have c0:=bc.frozen 0;have cY:=b2.cell 0;have b3:=bc.AX 0 (fP gZ 0);have E:=b3.cell 0;simp only[Ag,Ak]at aJ am cY E;have ch:KF _ d p L a0 aq:=(EE.Nq bg 0 (fP gZ 0) ab O1 O1).Nq 0 (fP gZ 0) ab O1 O1;have aw:=Ac ch;have ar:=Ac (((cm.trans C).set (p:=Φ a) (.inr (by show _<=a;omega)) (fP gZ 0)).set (p:=Φ a) (.inr (by show _<=a;omega)) (fP gZ 0));have b1:=Ac E;have da:IntKind.u64.wrap (c:Int)=(c:Int):=by rw[IntKind.wrap_u64];omega
   have cR:Hid ((Az c).toNat=c):=Ac (by rw[Ia];exact Nat.mod_eq_of_lt O1);clear bg C b i bc b2 b3 ch x y f2 n d0 d2 d3 ah
   go_wp2_with fail
   refine leaves_cons (f:=263) (args:= #[ptr0 a,ptr0 w.heap.size,ptr0 k]) Θ (by simp[go_sem]) ?_;refine(Am2 a w.heap.size k _ .returning ?_).mono ?_
   ·simp[b1.out]
   rintro l cl bh⟨rfl,rfl,rfl⟩;refine⟨gJ #[fP ig (c:Int),fP gZ 0],by simp[results,results260,go_sem,b1.out],?_,aq,?_,ar.out⟩
   ·rw[u.out,cR.out]
   ·rw[u.out];exact aw.out
end
def Tryz.Am5:Ig prog 42 3 (fP gZ 0) 1 8:=⟨underlying42,by kernel_rfl,rfl⟩
section
variable{w w':jD}{x d p L:Nat}{s:St}{F:Nat->Prop}
def RI{q:Ms}(h:jy w x d p L q F)(a:Pl)(B:Aen L a)(b c e:Option Addr)(j f k g l i:Nat)(n:UInt64):
 Calls prog 144 #[ptr0 x,.agg #[fD b j f,fP ig (a.nd.val.toNat:Int),fD c k g,fD e l i,fP gZ a.off,fP .u8 (a.label.toNat:Int),fP gZ a.word],fP ig (n.toNat:Int)] w λy w'=>
  y=gY (fP gZ (MO q a n).2)/\∃r,jy w' x d p L (MO q a n).1 r/\AL F r w w':=by
 obtain⟨m,A,K⟩:=B.off;obtain⟨S,T,P,D⟩:=h.L0;have u:η w (w.alloc (iy #[fD b j f,fP ig (a.nd.val.toNat:Int),fD c k g,fD e l i,fP gZ a.off,fP .u8 (a.label.toNat:Int),fP gZ a.word] 176)):=(Below.refl _ _).alloc (Ae _) _;have t:=Ac (λ(G:jD)(J:η w G)=>Qw (q:=q) (h.below J).sys (m+2) n O1);rw[show((8*(m+2):Nat):Int)=a.off+16 by omega]at t;have E:=Ac h;have C:MO q a n=JE q 3 (Dt q.s.ws (m+2) n):=by unfold MO;rw[A,show((8*m:Nat):Int).toNat/8=m by omega]
 rw[<-C]at t;generalize MO q a n=U at t⊢;have R:IntKind.i64.wrap (a.off+16)=a.off+16:=wrap64 _ O1 O1;have Q:=(u.cell (p:=Φ x) h.box.lt).trans (h.box.cell 0);simp only[Ag]at Q;have v:CB (w.alloc (iy #[fD b j f,fP ig (a.nd.val.toNat:Int),fD c k g,fD e l i,fP gZ a.off,fP .u8 (a.label.toNat:Int),fP gZ a.word] 176)) w.heap.size 176 [fD b j f,fP ig (a.nd.val.toNat:Int),fD c k g,fD e l i,fP gZ a.off,fP .u8 (a.label.toNat:Int),fP gZ a.word]:=heap_alloc_new _ _;have W:=(EJ v).2.2.2.2.1;generalize a.off=N at*;clear h C B A K P D v;go_enter func144,ntmps144
 go_wp2_with fail
 generalize w.alloc (iy #[fD b j f,fP ig (a.nd.val.toNat:Int),fD c k g,fD e l i,fP gZ N,fP .u8 (a.label.toNat:Int),fP gZ a.word] 176)=H at*
 go_region_with(go_at_call 142;go_loud(refine(t _ (u.trans ((Dr.drew _).below _))).mono ?_;rintro y V⟨rfl,r,M,I⟩))
 all_goals(go_wp2_with fail)
 all_goals(go_ret)
 all_goals(have z:=(AL.of_below (F:=F) (u.trans ((Dr.drew H).below _))).trans I)
 all_goals(exact⟨rfl,r,E.move M z,z⟩)
def Ae1{q:Ms}(h:KF w d p L q F)(j n c:Nat)(A:Option Addr)(xs:List UInt64)(f:j+n<=8*L)(g:0<n)(k:Ws w A n xs){r:Ms}{b:Int}(i:JE q (Lp j n) (BX q.s.ws j xs)=(r,b)):
 Calls prog 36 #[ptr0 d,fP gZ ((8*j:Nat):Int),fD A n c] w λe w'=>e=gY (fP gZ b)/\∃a,KF w' d p L r a/\AL F a w w':=by
 have:=Yr h j n c A xs f g k;rw[show n+((j+n-1)/8-j/8+1)+1=Lp j n from rfl,i]at this;exact this
end
def I7(r:Jm×UInt64×Int)(base jb x d p L:Nat)(G:Nat->Prop)(w:jD)(e:Ending)(w':jD):Prop:=
 e=gY (gJ #[fP ig (r.2.1.toNat:Int),fP gZ r.2.2])/\∃a,FY w' base jb x d p L r.1 a/\AL G a w w'
section
variable{w w':jD}{base jb x d p L:Nat}{j:Jm}{G:Nat->Prop}
def MW(h:FY w base jb x d p L j G)(a:Nd)(aq ar Z:Option Addr)(a5 a6 aJ:Nat)(cx:a.pre.length<=1000)(cy:a.labels.length<=1000)(cz:a.kids.length<=1000)
 (h1:Bs w aq a.pre.length a.pre)(h2:Bs w ar a.labels.length a.labels)(h3:Ws w Z a.kids.length a.kids)(cB:j.made.length<=1000):
 Calls prog 173 #[ptr0 jb,.agg #[fD aq a.pre.length a5,fP ig (a.val.toNat:Int),fD ar a.labels.length a6,fD Z a.kids.length aJ]] w (I7 (D8 j a) base jb x d p L G w):=by
 obtain⟨ad,aR,P,Q,R,S,o,cD⟩:=Ahi w 174 (fD aq a.pre.length a5) (fP ig (a.val.toNat:Int)) (fD ar a.labels.length a6) (fD Z a.kids.length aJ);have M:=Ac aR;have J:=Ac (Td aq ar Z a.pre.length a5 a.labels.length a6 a.kids.length aJ a ad O1 O1 O1 (h1.below o) (h2.below o) (h3.below o));have aZ:=Ac h;have I:=Ac o;clear aR h o h1 h2 h3;cases aM:BU a with
 |false=>
  have k:Hid (D8 j a=(j,0,5)):=Ac (by unfold D8;rw[aM];rfl);go_enter func173,ntmps173
  go_wp2_with fail
  rw[<-M.out];clear M;refine J.mono ?_;rintro g r⟨b,u⟩;rw[aM]at u;replace u:g=gY (gJ #[fD none 0 0,fU false]):=u;subst u;have v:=Ac (τ I.out b);clear b J P Q R S
  go_wp2_with fail
  go_ret2;refine⟨by rw[k.out];rfl,G,?_,AL.of_below v.out⟩;rw[k.out];exact aZ.below v.out
 |true=>
  obtain⟨F,bi,bb,bJ⟩:=aZ.out;obtain⟨cF,cG,b0,bm⟩:=bb.ix.L0;have z:=bb.below I.out;have aV:=Ac aM;have bN:(if a.kids.length<=4 then(1:Int)else 2)=((Dp a:Nat):Int):=by unfold Dp;split<;>rfl
  have aE:=Ac (λ(a3:jD)(cp cq cr:Value)=>Xt cp cq cr Z a.kids.length aJ a3 O1);rw[bN]at aE;have aa:=Ac (λ(a3:jD)(aR:η ad a3)=>Wq (z.below aR).ix.sys (Dp a) (Ω (Ui a)) (Ω (Ui a)));have a1:=Ac z;have bo:=Ac bJ;have m:=z.box.cell 0;have B:=z.box.cell 1;have u0:=z.ix.box.cell 0;have u1:=z.ix.box.cell 1;simp only[Ag,Am]at m B u0 u1;have T:=z.box.lt;have W:=z.ix.box.lt;have E:w.heap.size<ad.heap.size:=O1;have cb:=Ac b0;have ca:=Ac bm;clear bb bJ z bN b0 bm aM;cases A:DT j.s.s (Dp a)with
  |none=>
   have ac:Hid (resV j.s.s (Dp a)=gJ #[fP gZ 0,fP gZ 6]):=Ac (by unfold resV;rw[A]);have ab:Hid (Vx j.s.s (Dp a)=j.s.s):=Ac (by unfold Vx;rw[A]);have k:Hid (D8 j a=(j,0,6)):=Ac (by unfold D8;rw[aV.out,A];rfl);rw[ac.out,ab.out]at aa;clear ac ab A;go_enter func173,ntmps173
   go_wp2_with fail
   rw[<-M.out];clear M;refine J.mono ?_;rintro g r⟨b,u⟩;rw[aV.out,jM rfl]at u;obtain⟨cs,rfl,V⟩:=u;obtain⟨az,bC,rfl,ck,be⟩:=Cj V;have v:=Ac b;replace m:=(b.cell (p:=Φ jb) T).trans m;replace B:=(b.cell (p:=Δ jb 1) T).trans B;replace u0:=(b.cell (p:=Φ x) W).trans u0;replace u1:=(b.cell (p:=Δ x 1) W).trans u1;replace P:=(b.cell (p:=Φ w.heap.size) E).trans P;replace Q:=(b.cell (p:=Δ w.heap.size 1) E).trans Q;replace R:=(b.cell (p:=Δ w.heap.size 2) E).trans R;replace S:=(b.cell (p:=Δ w.heap.size 3) E).trans S;have av:jb<r.heap.size:=Be T b.size;have aw:x<r.heap.size:=Be W b.size;clear b J V be
   go_wp2_with fail
   go_region_with(first
    |(go_at_call 167;go_loud(refine(aE _ _ _ _).mono ?_;rintro g ct⟨rfl,t⟩;have X:=(t.cell (p:=Φ jb) av).trans m;have Y:=(t.cell (p:=Δ x 1) aw).trans u1;have y:=(v.trans (((Dr.drew r).below ad.heap.size))).trans (t.mono v.size)))
    |(go_at_call 204;go_loud(refine(aa _ y).mono ?_;rintro g H⟨rfl,al,am⟩)))
   all_goals(obtain⟨n,e,i,f⟩:=(a1.below y).move bo.out al am)
   all_goals(have K:Hid (∃n,FY H base jb x d p L j n/\AL G n w H):=Ac ⟨n,⟨F,bi,e,i⟩,(AL.of_below (τ I.out y)).trans f⟩)
   all_goals(clear e i f al am y X Y t)
   all_goals(go_wp2_with fail)
   all_goals(go_ret2)
   all_goals(refine⟨by rw[k.out];rfl,?_⟩)
   all_goals(rw[k.out])
   all_goals(exact K.out)
  |some cn=>
   obtain⟨c,ap⟩:=cn;obtain⟨an,bR,bV⟩:=bU cb.out ca.out (Ui a) A;have ac:Hid (resV j.s.s (Dp a)=gJ #[fP gZ (c:Int),fP gZ 0]):=Ac (by unfold resV;rw[A]);have ab:Hid (Vx j.s.s (Dp a)=ap):=Ac (by unfold Vx;rw[A]);have bS:c/8=an:=O1;obtain⟨⟨ao,N⟩,a8⟩:∃ce,JE ⟨j.s.pw,ap⟩ (Lp an (DL a).length) (BX ap.ws an (DL a))=ce:=⟨_,rfl⟩;obtain⟨D,a9⟩:=ε (IM ao (c:Int));have k:Hid (D8 j a=if N=0 then(if D.2=0 then(⟨D.1,j.made++[(c:Int)]⟩,Az c,0)else(⟨D.1,j.made++[(c:Int)]⟩,0,D.2))else(⟨ao,j.made++[(c:Int)]⟩,0,N)):=Ac (by unfold D8;rw[aV.out,A,a9];simp only[Bool.not_true,Bool.false_eq_true,if_false,bS,a8]);have bx:=Ac a8;rw[ac.out,ab.out]at aa;have cC:(c:Int)<=65536:=O1;have bc:=zL a;have a2:=Ac a9;have cf:=Ac bR;have cc:=Ac bV;have b9:=Ac bc;have b8:Hid (0<(DL a).length):=Ac (by rw[bc];rcases Ui a with g|g<;>rw[g]<;>decide);have cd:Hid (((Az c).toNat:Int)=(c:Int)):=Ac (by rw[Ia];omega);have cE:IntKind.u64.wrap (c:Int)=(c:Int):=by
    exact IntWalk.u64_in _ O1
   have co:=Ac aZ.lt;clear bc bV a9 bR bS a8;clear ac ab A;go_enter func173,ntmps173
   go_wp2_with fail
   rw[<-M.out];clear M;refine J.mono ?_;rintro g r⟨b,u⟩;rw[aV.out,jM rfl]at u;obtain⟨cs,rfl,V⟩:=u;obtain⟨az,bC,rfl,ck,be⟩:=Cj V;have v:=Ac b;replace m:=(b.cell (p:=Φ jb) T).trans m;replace B:=(b.cell (p:=Δ jb 1) T).trans B;replace u0:=(b.cell (p:=Φ x) W).trans u0;replace u1:=(b.cell (p:=Δ x 1) W).trans u1;replace P:=(b.cell (p:=Φ w.heap.size) E).trans P;replace Q:=(b.cell (p:=Δ w.heap.size 1) E).trans Q;replace R:=(b.cell (p:=Δ w.heap.size 2) E).trans R;replace S:=(b.cell (p:=Δ w.heap.size 3) E).trans S;have av:jb<r.heap.size:=Be T b.size;have aw:x<r.heap.size:=Be W b.size;have bG:Hid (KT r G az (DL a).length ((DL a).map wv)):=Ac (KT.OH V (λcg cA _ cl=>Ψ (co cg cl) I.size));clear b J V be
   go_wp2_with fail
   go_region_with(first
    |(go_at_call 167;go_loud(refine(aE _ _ _ _).mono ?_;rintro g ct⟨rfl,t⟩;have X:=(t.cell (p:=Φ jb) av).trans m;have Y:=(t.cell (p:=Δ x 1) aw).trans u1;have y:=(v.trans (((Dr.drew r).below ad.heap.size))).trans (t.mono v.size)))
    |(go_at_call 204;go_loud(refine(aa _ y).mono ?_;rintro g H⟨rfl,al,am⟩)))
   all_goals(obtain⟨n,e,i,f⟩:=(a1.below y).move (s':=⟨j.s.pw,ap⟩) bo.out al am)
   all_goals(have bs:Hid (AL G n w H):=Ac ((AL.of_below (τ I.out y)).trans f))
   all_goals(have bw:Hid (KT H n az (DL a).length ((DL a).map wv)):=Ac ((bG.below (((Dr.drew r).below r.heap.size).trans t)).moved f))
   all_goals(have l:=Ac e)
   all_goals(have bp:=Ac i)
   all_goals(clear e i f al am y X Y t m B u0 u1 P Q R S av aw bG)
   all_goals(have m:=l.out.box.cell 0)
   all_goals(have B:=l.out.box.cell 1)
   all_goals(simp only[Ag,Am]at m B)
   all_goals(have u0:=l.out.ix.box.cell 0)
   all_goals(simp only[Ag]at u0)
   all_goals(have b1:=Ac l.out.row)
   all_goals(have bl:base<=H.heap.size:=Nat.le_of_lt (Nat.lt_of_le_of_lt l.out.bj l.out.box.lt))
   all_goals(have cm:j.made.length<=1000000:=O1)
   all_goals(clear aE aa v I a1)
   all_goals(go_wp2_with(at_builtin;refine BC rfl (.tmp 39) (.tmp 41) 42 rfl Tryz.Am5 H base bi j.made.length (j.made.map zv) [zv (c:Int)] rfl b1.out rfl H.heap.size 1 rfl rfl rfl U (by simp[zv,Value.oneCell']) cm U bl ?_;intro cj ch bk bB bA aL bH;have aD:CB bk jb 249 [ptr0 x,bi]:=(aL.2 jb l.out.box.lt (λg=>l.out.mj g.symm)).trans l.out.box;have a4:CB bk x 215 [ptr0 d,ptr0 p]:=(aL.2 x l.out.ix.box.lt (λg=>l.out.mx g.symm)).trans l.out.ix.box;have X:=aD.cell 0;have Y:=aD.cell 1;have ci:=aD.frozen 1;have bD:=a4.cell 0;have bE:=a4.cell 1;simp only[Ag,Am]at X Y bD bE))
   all_goals(obtain⟨cv,e,i,f⟩:=l.out.app bp.out (o:=(c:Int)) O1 bB bA aL bH)
   all_goals(obtain⟨cw,bL⟩:=ε (bk.setCell (Δ jb 1) (fD (iC (Φ cj)) (j.made.length+1) ch)))
   all_goals(rw[<-bL]at e f⊢)
   all_goals(have aF:=Ae1 (q:=⟨j.s.pw,ap⟩) e.ix.sys an (DL a).length bC az (DL a) (Ψ cc.out b9.out) b8.out (bw.moved f).1 bx.out)
   all_goals(rw[show((8*an:Nat):Int)=(c:Int)by have:=cf.out;omega]at aF)
   all_goals(have aW:=Ac (bs.trans f))
   all_goals(have a0:=Ac e)
   all_goals(have aX:=Ac i)
   all_goals(clear e i f bB bA aL bH aD a4 X Y ci bD bE bL bs bw l bp m B u0 b1 bl)
   all_goals(refine aF.mono ?_)
   all_goals(rintro g b2⟨rfl,b4,bg,a7⟩)
   all_goals(obtain⟨b6,e,i,f⟩:=a0.out.move aX.out bg a7)
   all_goals(by_cases ba:N=0)
   all_goals first
    |(have bd:N≠0:=ba
      have C:Hid (D8 j a=(⟨ao,j.made++[(c:Int)]⟩,0,N)):=Ac (by rw[k.out,ku bd]);have t3:(N !=0)=true:=by rw[bne_iff_ne];exact bd
      have K:Hid (∃n,FY b2 base jb x d p L ⟨ao,j.made++[(c:Int)]⟩ n/\AL G n w b2):=Ac ⟨b6,⟨b4,_,e,i⟩,aW.out.trans f⟩;clear e i f bg a7 aF aW a0 aX k ba bd a2 bx
      go_wp2_with fail
      go_ret2;refine⟨by rw[C.out];rfl,?_⟩;rw[C.out];exact K.out)
    |skip
   all_goals(subst ba)
   all_goals(rw[jM rfl]at k)
   all_goals(have ae:=aI (q:=ao) e.ix.sys (c:Int) O1)
   all_goals(rw[<-a2.out]at ae)
   all_goals(have ae:=Ac ae)
   all_goals(have bt:=Ac (aW.out.trans f))
   all_goals(have br:=Ac e)
   all_goals(have bq:=Ac i)
   all_goals(have m:=e.box.cell 0)
   all_goals(have u1:=e.ix.box.cell 1)
   all_goals(simp only[Ag,Am]at m u1)
   all_goals(clear e i f bg a7 aF aW a0 aX)
   all_goals(go_wp2_with fail)
   all_goals(refine ae.out.mono ?_)
   all_goals(rintro g b3⟨rfl,b5,bX,bO⟩)
   all_goals(obtain⟨b7,e,i,f⟩:=br.out.move bq.out bX bO)
   all_goals(have K:Hid (∃n,FY b3 base jb x d p L ⟨D.1,j.made++[(c:Int)]⟩ n/\AL G n w b3):=Ac ⟨b7,⟨b5,_,e,i⟩,bt.out.trans f⟩)
   all_goals(obtain⟨bh,bY⟩:=ε D.2)
   all_goals(rw[<-bY]at k⊢)
   all_goals(clear e i f bX bO bt br bq ae m u1 a2 bY)
   all_goals(by_cases ah:bh=0)
   all_goals first
    |(have C:Hid (D8 j a=(⟨D.1,j.made++[(c:Int)]⟩,Az c,0)):=Ac (by rw[k.out,jM ah])
      subst ah;clear k
      go_wp2_with fail
      go_ret2;refine⟨by rw[C.out];show _=Ending.returned (gJ #[fP ig ((Az c).toNat:Int),fP gZ 0]);rw[cd.out];rfl,?_⟩;rw[C.out];exact K.out)
    |(have C:Hid (D8 j a=(⟨D.1,j.made++[(c:Int)]⟩,0,bh)):=Ac (by rw[k.out,ku ah])
      have t3:(bh !=0)=true:=by rw[bne_iff_ne];exact ah
      clear k ah
      go_wp2_with fail
      go_ret2;refine⟨by rw[C.out];rfl,?_⟩;rw[C.out];exact K.out)
end
def NM(a b:ByteArray):Int:=if Op.bytesLess a.toList b.toList=true then-1 else if(a.toList==b.toList)=true then 0 else 1
def Aqm(a:ByteArray)(w:jD):Calls prog 170 #[fQ a] w λb w'=>b=gY (fU false)/\w=w':=by
 go_enter func170,ntmps170;go_wp2;go_ret;exact⟨by simp,rfl⟩
def Aqn(a b:ByteArray)(w:jD):Calls prog 138 #[fQ a,fQ b] w λc w'=>c=gY (fP gZ (NM a b))/\w=w':=by
 obtain⟨d,g⟩:∃q,Op.bytesLess a.toList b.toList=q:=⟨_,rfl⟩;obtain⟨e,i⟩:∃q,(a.toList==b.toList)=q:=⟨_,rfl⟩;have f:Hid (NM a b=if d=true then-1 else if e=true then 0 else 1):=Ac (by unfold NM;rw[g,i]);cases d<;>cases e<;>(
  go_enter func138,ntmps138
  go_wp2_with(go_at_call 170;refine(Aqm _ _).mono ?_;rintro c w'⟨rfl,rfl⟩)
  go_ret;exact⟨by rw[f.out];rfl,rfl⟩)
def Zn(x:Wr)(key:ByteArray)(w:jD):Calls prog 90 #[OU x,fQ key] w λa w'=>a=gY (fP gZ (NM x.key key))/\η w w':=by
 obtain⟨g,b,o,c⟩:=newB w 100 [fQ x.key,fQ x.text,fU x.gone];have e:=Ac (Aqn x.key key g);have d:=Ac o;have f:=Ac b;unfold OU;clear c o b;go_enter func90,ntmps90
 go_wp2_with fail
 rw[<-f.out]
 go_wp2_with fail
 refine e.mono ?_;rintro a i⟨rfl,rfl⟩
 go_wp2_with fail
 go_ret;exact⟨rfl,d.out⟩
def jO{w:jD}{A:Option Addr}{s:List Wr}(h:Rd w A (s.length*3) (Gf s))(k:Nat)(e:k<s.length):∃a b,A=iC (Δ a b)/\a<w.heap.size/\w.cell? (Δ a (b+k*3))=iC (fQ s[k].key)/\
 w.cell? (Δ a (b+k*3+1))=iC (fQ s[k].text)/\w.cell? (Δ a (b+k*3+2))=iC (fU s[k].gone):=by
 obtain⟨a,b,rfl,o,c⟩:=h.2 O1;have d:=flat_get wrC 3 (λ_=>rfl) s k;refine⟨a,b,rfl,o,?_,?_,?_⟩
 ·have:=c (k*3) O1;rw[this];exact d 0 e U
 ·have:=c (k*3+1) O1;rw[TW,this];exact d 1 e U
 ·have:=c (k*3+2) O1;rw[TW,this];exact d 2 e U
def Am8{w:jD}{A:Option Addr}{c:Nat}{s:List Wr}(key:ByteArray)(aa:s.length<=100000)(K:Rd w A (s.length*3) (Gf s))(L:WA s):
 Calls prog 126 #[fD A s.length c,fQ key,.func (.func 90) #[] #[]] w λn w'=>n=gY (gJ #[fP gZ (Gl s key:Nat),fU (jA s key)])/\η w w':=by
 have Q:=Ac K;have I:=Ac L;clear K L;go_enter func126,ntmps126
 go_wp2_with fail
 go_loopg [9,10]s.length(λT Y Z wr=>∃b a:Nat,Y=fP gZ b/\Z=fP gZ a/\b<=a/\a<=s.length/\a-b<=T/\η w wr/\(∀d(h:d<s.length),d<b->Gp s[d] key=true)/\(∀d(h:d<s.length),a<=d->Gp s[d] key=false))
 case atStart=>exact⟨0,s.length,rfl,rfl,BA _,Ae _,O1,Below.refl _ _,λd _ E=>absurd E (Nat.not_lt_zero _),λd y z=>O1⟩
 case round=>
  obtain⟨b,a,rfl,rfl,ac,W,ab,o,y,z⟩:=hrel;have u:=Ac y;have v:=Ac z;have l:=Ac o;have N:=Ac (Rd.below Q.out o);clear y z o;have m:=Ac (λ(x:Wr)R=>Zn x key R);unfold OU at m;by_cases ad:b<a
  ·have C:(b+a)/2<s.length:=O1;obtain⟨S,X,rfl,V,F,G,H⟩:=jO N.out ((b+a)/2) C;obtain⟨x,g⟩:=ε (s[(b+a)/2]);rw[<-g]at F G H;have J:=Ac g;have f:Gp x key=Op.bytesLess x.key.toList key.toList:=rfl;cases e:Op.bytesLess x.key.toList key.toList with
   |true=>
    rw[e,J.out]at f;have B:decide (NM x.key key<0)=true:=by rw[show NM x.key key= -1 by unfold NM;rw[jM e]];decide
    have t:=Ac f;clear g f e
    go_wp2_with(go_at_call 90;refine(m x _).mono ?_;rintro n w'⟨rfl,k⟩)
    go_roundg(a-((b+a)/2+1))
    case measure=>omega
    case rel=>
     exact⟨(b+a)/2+1,a,by rw[show((b:Int)+(a:Int))/2+1=(((b+a)/2+1:Nat):Int)by omega],rfl,O1,W,Ae _,τ l.out k,I.left C t.out,v.out⟩
   |false=>
    rw[e,J.out]at f;have B:decide (NM x.key key<0)=false:=by
     unfold NM;rw[e,ku U];split<;>decide
    have t:=Ac f;clear g f e
    go_wp2_with(go_at_call 90;refine(m x _).mono ?_;rintro n w'⟨rfl,k⟩)
    go_roundg((b+a)/2-b)
    case measure=>omega
    case rel=>
     exact⟨b,(b+a)/2,rfl,by rw[show((b:Int)+(a:Int))/2=(((b+a)/2:Nat):Int)by omega],O1,O1,Ae _,τ l.out k,u.out,I.right C t.out⟩
  ·have:a=b:=O1;subst this;by_cases p:a<s.length
   ·obtain⟨S,X,rfl,V,F,G,H⟩:=jO N.out a p;obtain⟨j,i⟩:=sO p (v a p (Ae _)) u.out;have e:Op.bytesLess s[a].key.toList key.toList=false:=v a p (Ae _);obtain⟨x,g⟩:=ε (s[a]);rw[<-g]at F G H i e;have B:(NM x.key key==0)=jA s key:=by
     rw[i];unfold NM;rw[e,ku U];cases(x.key.toList==key.toList)<;>rfl
    have q:=Ac j;clear g j i e;obtain⟨M,D⟩:∃M,jA s key=M:=⟨_,rfl⟩;rw[D]at B;have r:=Ac D;clear D
    go_wp2_with(go_at_call 90;refine(m x _).mono ?_;rintro n w'⟨rfl,k⟩)
    go_ret2;exact⟨by rw[q.out,r.out];rfl,τ l.out k⟩
   ·have f:a=s.length:=O1;obtain⟨j,i⟩:=Air (s:=s) (key:=key) (λd E=>u d E O1);have q:=Ac j;have r:=Ac i;have P:=Ac f;clear f j i
    go_wp2_with fail
    go_ret2;exact⟨by rw[q.out,r.out,P.out];rfl,l.out⟩
def WJ{w:jD}{A:Option Addr}{c:Nat}{s:List Wr}(key:ByteArray)(g:s.length<=100000)(b:Rd w A (s.length*3) (Gf s))(d:WA s):
 Calls prog 82 #[fD A s.length c,fQ key] w λa w'=>a=gY (gJ #[fP gZ (Gl s key:Nat),fU (jA s key)])/\η w w':=by
 have e:=Ac (Am8 (c:=c) key g b d);clear b d;go_enter func82,ntmps82
 go_wp2_with fail
 refine e.mono ?_;rintro a i⟨rfl,f⟩
 go_wp2_with fail
 go_ret2;exact⟨rfl,f⟩
