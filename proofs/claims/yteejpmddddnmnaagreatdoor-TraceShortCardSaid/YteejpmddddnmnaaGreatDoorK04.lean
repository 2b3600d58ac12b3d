import Derived.Deep.LoopGhost
import Derived.Deep.RegionHeldLaw
import Derived.Test.YteejpmddddnmnaaGreatDoorK03
set_option linter.defProp false
set_option maxHeartbeats 32000000
set_option maxRecDepth 100000
open Go.Lib renaming hid->Ac
open Nat renaming le_refl->Ae,lt_of_not_le->Aqg,zero_le->Bd,le_trans->AZ,lt_of_lt_of_le->Bc,add_assoc->JD,not_lt_zero->Wn,lt_irrefl->Abz
open Go.World renaming ownsRow_nil->Ce,cell?_of_block->BQ,drew->lY
open List renaming getLast?_eq_getElem?->nY,getElem?_eq_getElem->Ag,length_append->AO,range->Ea,range_succ->Qe,length_filter_le->JV,length_map->Df,getElem_mem->BO,map_append->CJ,set_cons_zero->Aq,getElem?_cons_zero->Af,length_cons->Bg,drop_eq_getElem_cons->BX,drop_of_length_le->D9
open Array renaming getElem?_eq_some_iff->AL
open UInt64 renaming ofNat->Az,toNat_ofNat'->IX
open Int renaming tmod_eq_emod_of_nonneg->Ej,tdiv_eq_ediv_of_nonneg->Lr
open Go.Value renaming slice->fM,int->gz,string->ig,bool->iw,tuple->iJ
open Go.Ending renaming returned->iO
open Go.IntKind renaming i64->iU,u64->iV
open Go.Obj renaming cells->ji
open Option renaming some->jm,none->jw
open Bool renaming false->jS
open Go renaming World->jT
namespace Go.Proofs.YteejpmddddnmnaaGreatDoor
open Go.RowKit
open Go.Proofs.Tryz
def Tryz.Ags:IK prog 191 197 (.agg #[gz iU 0,gz iV 0,gz iV 0,jS,ig ⟨#[]⟩]) 5 48:=⟨underlying191,by kernel_rfl,rfl⟩
def jo(s:St)(first:ni)(w:jT)(e:Ending)(w':jT):Prop:=
 η w w'/\match IU s first with
  |none=>e=iO (iJ #[fM jw 0 0,gz iU 5])
  |some a=>Ny s a/\∃b,e=iO (iJ #[b,gz iU 0])/\w'.ownsRow w 197 5 b a.length (nD a)
def Ar0(s:St)(first:ni)(w:jT)(g:Nat)(v a:Value)(wr:jT):Prop:=
 ∃(b:List Lk)(c:ni)(d:Nat),a=gz iV (c.toNat:Int)/\WU s d c b=IU s first/\FD b<d/\FD b<=g/\Ny s b/\wr.ownsRow w 197 5 v b.length (nD b)/\η w wr
def Uc(a:ni): -9223372036854775808<=Bz a/\Bz a<=9223372036854775807:=by
 unfold Bz;simp only[IntKind.wrap,IntKind.bits,IntKind.signed,Bool.true_and,decide_eq_true_eq,show(2:Int)^(64-1)=9223372036854775808 from rfl,show(2:Int)^64=18446744073709551616 from rfl];constructor<;>split<;>omega
def Eu{w w':jT}{pI n k:Nat}{e:TypeId}{v:Value}{xs:List Value}(h:w.ownsRow pI e k v n xs)(o:η w w'):w'.ownsRow pI e k v n xs:=
 FN h (Kept.of_below (r:=jw) o) (by
  rcases h.2 with⟨a,_⟩|⟨d,b,c,a,_⟩
  ·exact .inr (by subst a;rfl)
  ·exact .inl (by subst a;exact λe=>nomatch e))
section
variable{w w':jT}{d p L:Nat}{s:St}{F:Nat->Prop}
def VC{lm:Mode}(h:Fg (.up lm) w d p L s F)(first:ni):Calls prog 91 #[AB d,AB p,first] w (jo s first w):=by
 obtain⟨bs,bq,b1⟩:=l9 h (Zh h) h.pos;clear h;go_in;go_wp2_with(refine bq.out.ro ?_;clear bq)
 go_loopg [8,9](FD [])(λA cl b4 wr=>Ar0 s first w A cl b4 wr)
 case atStart=>exact⟨[],first,_,rfl,rfl,by decide,Ae _,Ny.nil s,Ce _ _ _ _,mZ⟩
 case round=>
  obtain⟨e,y,z,rfl,g,ah,C,a0,bO,o⟩:=hrel;obtain⟨z,rfl⟩:∃b7,z=b7+1:=⟨z-1,O⟩;rw[WU]at g;obtain⟨G,W,bo⟩:=l9 bO o a0;have cd:=a0.few;clear bO o a0;by_cases ad:y.toNat=0
  ·rw[kX ad]at g;have t0:((y.toNat:Int)!=0)=false:=by rw[ad];rfl
   have aw:=Ac g;clear g ad ah C;go_wp2;go_ret2;refine⟨W.out,?_⟩;rw[<-aw.out];exact⟨bo.out,_,rfl,G.out⟩
  ·rw[lg ad]at g;have t0:((y.toNat:Int)!=0)=true:=by rw[bne_iff_ne];omega
   have bB:=Uc y;have ch:IntKind.i64.wrap (y.toNat:Int)=Bz y:=rfl;obtain⟨q,bN⟩:=ε (Bz y);rw[<-bN]at ch bB g;have bx:=bs.below W.out;have Z:=Ac (show Calls prog 134 #[AB p,q] wr _ from by
    obtain⟨tb,o,n,cT,cH,own,cg,-⟩:=bx;exact ik cg.at q bB)
   clear bN;by_cases B:Ed s q=1
   ·rw[lg (by rw[B];exact λh=>h rfl)]at g;rw[B]at Z;obtain⟨b9,bw,bR,m⟩:=b1.out;obtain⟨bE,bL,a1,a2⟩:=pO bR m bw B;obtain⟨j,a3⟩:=ε (q.toNat/8);rw[<-a3]at a1 a2 g;have be:q.toNat/8=j:=a3.symm;obtain⟨b0,bY,ac,bl,bm,b2,aq⟩:=lQ be B g ah C (And.intro bE bL) (λ(b3:jT)(ca:η w b3)=>tZ (bs.below ca) j 8 a2);rw[<-a1,show((8:Nat):Int)=8 from rfl]at aq;clear a1 a3 be B g ah C b9 bw bR m bE bL a2 bx;go_wp2_with(first|(refine Z.out.mono ?_;rintro f bS⟨rfl,Q⟩;have D:=Ac (W.trans (Q.below w));have bg:=Q.below wr;have bd:=Ac bg;clear Z Q bg)|(refine(aq bS D.out).mono ?_;rintro f cm⟨cv,rfl,bM,aI⟩;obtain⟨bW,b5,rfl,cc,bQ⟩:=CY bM;obtain⟨bk,bc,X⟩:=l9 (τ D.out aI) (τ bd.out aI) (Ai2 (wordsAt s.ws j 8) bW b5 cm cc bQ);clear bM bQ aI aq));refine X.mono ?_;rintro f V⟨aL,u⟩;have au:=Ac (τ bk.out aL);have bh:=τ bc.out aL;have ap:=Ac bh;clear aL X bh bc bd bk D;cases R:Qi (wordsAt s.ws j 8)with
    |none=>
     have k:=ac.out;rw[R]at u k;replace u:f=iO (iJ #[.agg #[gz iV 0,gz iV 0,jS,ig ⟨#[]⟩],jS]):=u;subst u;have k:Hid (jw=IU s first):=Ac k;clear R ac;go_wp2_with fail;go_quiet(fail);go_wp2;go_ret2;refine⟨(au.alloc au.size _).trans ((Dr.one _ _).below _),?_⟩;rw[<-k.out];rfl
    |some a=>
     have k:=ac.out;rw[R]at u k;replace u:f=iO (iJ #[.agg #[a.nK,a.next,a.gone,a.text],true]):=u;subst u;have k:=Ac k;have X:=Ac R;clear R ac;obtain⟨ab,bV,aM,ar⟩:=E5 V 195 [a.nK,a.next,a.gone,a.text];have bb:=τ au.out aM;have bi:=τ ap.out aM;have az:Hid (∀A,u8.ownBlock=jm A->A<wr):=Ac (λA C=>(G.out.lt A C).2);have ba:=FN G.out (Kept.of_below (r:=jw) bi) (by
      rcases G.out.2 with⟨aG,_⟩|⟨A,cr,cs,aG,_⟩
      ·exact .inr (by subst aG;rfl)
      ·exact .inl (by subst aG;exact λf=>nomatch f))
     obtain⟨bX,bt,rfl,cu,S⟩:=dJ ba;obtain⟨al,am,an,ao,_,_,_,_⟩:=Dp ar;obtain⟨J,I,Y,aE⟩:=lL ba bb ar bV;clear aM ar bb bi ba G bV;obtain⟨n,m⟩:=ε e.length;have br:=Ac m;rw[<-m]at J;rw[<-m]at cd az;rw[<-m];by_cases l:FD e<=a.nK.toNat
     ·have i:=k.out
      dsimp only at i
      rw[kX l]at i;have i:=Ac i;have bA:e≠[]:=λf=>by
       subst f;have:=a.nK.toNat_lt;have ct:(18446744073709551616:Nat)<=a.nK.toNat:=l;omega
      obtain⟨c,ce⟩:∃c,n=c+1:=⟨n-1,by have:e.length≠0:=(λf=>bA (List.eq_nil_of_length_eq_zero f));omega⟩;obtain⟨b,bj,rfl,cb,a5,cj,a6,a7,a8⟩:=S.at c O;have ae:FD e=e[c].rc.nK.toNat:=by
       unfold FD;rw[nY,Ag O];simp only[show e.length-1=c by omega]
      rw[ae]at l;subst ce;have cf:IntKind.i64.wrap ((c:Int)+1-1)=(c:Int):=by rw[show(c:Int)+1-1=(c:Int)by omega];exact IntWalk.i64_in _ O
      have t6:=dT (e[c].rc.nK.toNat<=a.nK.toNat) l;generalize e[c].rc.nK=ci at*;clear ae S bA m l a5 a6 a7 a8;go_wp2_with fail;rw[<-aE.out];go_quiet(fail);go_wp2;go_ret2;refine⟨I.trans ((Dr.one _ _).below _),?_⟩;rw[<-i.out];rfl
     ·have aa:Hid (a.nK.toNat<FD e):=Ac (Aqg l);have i:=k.out
      dsimp only at i
      rw[lg l]at i;have i:=Ac i;have bp:=Ac (bo.step b2.out bY.out (by rw[b0.out];exact X.out) (Aqg l));cases n with
      |zero=>
       clear S m;go_wp2_with fail;rw[<-aE.out];go_quiet(fail);obtain⟨r,x⟩:=ε (ab.drewN nq);have t:η ab r:=by rw[x];exact(Dr.one _ _).below _
       have v:=Y.out.ξ t;obtain⟨al,am,an,ao,_,_,_,_⟩:=Dp v;obtain⟨a4,K,E⟩:=l9 (Eu J.out t) (τ I.out t) v;have aR:w.heap.size<=r:=K.size;rw[<-x];clear t v x J I Y l;go_wp2_with(at_builtin;refine BU rfl (.tmp 61) (.tmp 65) 191 rfl Tryz.Ags r w (fM bX 0 bt) 0 (nD e) [q,a.nK,a.next,a.gone,a.text] rfl a4.out rfl r 1 rfl rfl rfl U (by intro ck T;simp at T;rcases T with rfl|rfl|rfl|rfl|rfl<;>rfl) O U aR ?_;intro b8 b6 a9 P M N aW;have H:Cm a9 V 195 _:=(N.2 V E.lt (λf=>Ψ (az _ f.symm) ap.size)).trans E.out;obtain⟨cn,co,cp,cq,_,_,_,_⟩:=Dp H);have aD:=Ac P;have av:=Ac (K.trans M);clear P M N aW H al am an ao;go_wp2_with fail;go_roundg(a.nK.toNat)
       case measure=>have:=aa.out;have:=bm.out;omega
       case rel=>exact⟨e++[⟨q,a⟩],a.next,z,rfl,i.out,by rw[Ku];have:=aa.out;have:=bl.out;show a.nK.toNat<z;omega,by rw[Ku];exact Ae _,bp.out,by rw[yV,AO,<-br.out];exact aD.out,av.out⟩
      |succ c=>
       obtain⟨b,bj,rfl,cb,a5,cj,a6,a7,a8⟩:=S.at c O;have ae:FD e=e[c].rc.nK.toNat:=by
        unfold FD;rw[nY,Ag O];simp only[show e.length-1=c by omega]
       have cf:IntKind.i64.wrap ((c:Int)+1-1)=(c:Int):=by rw[show(c:Int)+1-1=(c:Int)by omega];exact IntWalk.i64_in _ O
       have t6:=dF (e[c].rc.nK.toNat<=a.nK.toNat);generalize e[c].rc.nK=ci at*;clear ae S m a5 a6 a7 a8;go_wp2_with fail;rw[<-aE.out];go_quiet(fail);obtain⟨r,x⟩:=ε (ab.drewN nq);have t:η ab r:=by rw[x];exact(Dr.one _ _).below _
       have v:=Y.out.ξ t;obtain⟨al,am,an,ao,_,_,_,_⟩:=Dp v;obtain⟨a4,K,E⟩:=l9 (Eu J.out t) (τ I.out t) v;have aR:w.heap.size<=r:=K.size;rw[<-x];clear t v x J I Y l;go_wp2_with(at_builtin;refine BU rfl (.tmp 61) (.tmp 65) 191 rfl Tryz.Ags r w (fM (jm (Δ b bj)) (c+1) bt) (c+1) (nD e) [q,a.nK,a.next,a.gone,a.text] rfl a4.out rfl r 1 rfl rfl rfl U (by intro ck T;simp at T;rcases T with rfl|rfl|rfl|rfl|rfl<;>rfl) O U aR ?_;intro b8 b6 a9 P M N aW;have H:Cm a9 V 195 _:=(N.2 V E.lt (λf=>Ψ (az _ f.symm) ap.size)).trans E.out;obtain⟨cn,co,cp,cq,_,_,_,_⟩:=Dp H);have aD:=Ac P;have av:=Ac (K.trans M);clear P M N aW H al am an ao;go_wp2_with fail;go_roundg(a.nK.toNat)
       case measure=>have:=aa.out;have:=bm.out;omega
       case rel=>exact⟨e++[⟨q,a⟩],a.next,z,rfl,i.out,by rw[Ku];have:=aa.out;have:=bl.out;show a.nK.toNat<z;omega,by rw[Ku];exact Ae _,bp.out,by rw[yV,AO,<-br.out];exact aD.out,av.out⟩
   ·rw[kX B]at g;have aw:=Ac g;have t1:(((Ed s q:Nat):Int)!=1)=true:=by rw[bne_iff_ne];omega
    clear g ah C;go_wp2_with(refine Z.out.mono ?_;rintro f bS⟨rfl,Q⟩;have D:=Ac (W.trans (Q.below w)));go_ret2;refine⟨D.out,?_⟩;rw[<-aw.out];rfl
end
def Tryz.Zj:IK prog 117 3 (gz iU 0) 1 8:=⟨underlying117,by kernel_rfl,rfl⟩
def nvs(l:List Nat):List Value:=l.map λa=>gz iU ((a:Nat):Int)
def Agt(l:List Nat)(a:Nat):nvs (l++[a])=nvs l++[gz iU (a:Int)]:=by simp[nvs]
def Ai7(x:Nat)(w:jT)(D:x<18446744073709551616):Calls prog 144 #[gz iV (x:Int)] w λb w'=>∃F,b=iO F/\w'.ownsRow w 3 1 F (Wv x).length (nvs (Wv x))/\η w w':=by
 have m:=Ac (IL x w D);have H:=Ac (λi=>Ik (Bj x) i (Ω (PS x)));have aa:=Kt (Bj x);have J:=Ac (λi t(Z:t<16)=>UO x t i D O);have y:Wv x=(Ea (BG (Bj x))).filter (Fj x):=rfl;rw[y];clear y;generalize BG (Bj x)=e at*;generalize Bj x=V at*;go_in;go_wp2_with(first|(refine m.out.mono ?_;rintro b R⟨rfl,v⟩;have I:=Ac (v.below w);clear m v)|(refine(H R).ro ?_;clear H));go_loopw [3,8](λE l wr=>∃a:Nat,a<=e/\l=gz iU (a:Nat)/\wr.ownsRow w 3 1 E ((Ea a).filter (Fj x)).length (nvs ((Ea a).filter (Fj x)))/\η w wr)(λ_ l _=>e-(intOf l).toNat)
 case atStart=>exact⟨0,Bd _,rfl,Ce _ _ _ _,I⟩
 case round=>
  obtain⟨a,ac,rfl,B,o⟩:=hrel;have c:=Ac B;have f:=Ac o;clear B o;by_cases A:a<e
  ·obtain⟨ae,M,N⟩:=XH A;have ad:IntKind.i64.wrap ((a:Int)+1)=(a:Int)+1:=wrap64 _ O O;have d:Hid ((Ea (a+1)).filter (Fj x)=if Fj x a then(Ea a).filter (Fj x)++[a]else(Ea a).filter (Fj x)):=Ac (by
    rw[Qe,List.filter_append];simp only[List.filter_cons,List.filter_nil];split<;>simp)
   have ab:((Ea a).filter (Fj x)).length<=16:=AZ (JV _ _) (by simp;omega);have n:=Ac (J wr a O);generalize(Ea a).filter (Fj x)=p at*;go_wp2_with fail;refine n.mono ?_;rintro b G⟨rfl,k⟩;have g:=Ac (f.trans (k.below w));have u:=Ac (FN c (Kept.of_below (r:=jw) (k.below _)) (by
    rcases c.out.2 with⟨j,_⟩|⟨X,T,W,j,_⟩
    ·exact .inr (by subst j;rfl)
    ·exact .inl (by subst j;exact λb=>nomatch b)))
   clear n k c f;cases z:Fj x a with
   |true=>
    rw[z,kX rfl]at d;go_wp2_with(at_builtin;refine BU rfl (.tmp 14) (.tmp 16) 117 rfl Tryz.Zj G w u3 p.length (nvs p) [gz iU (a:Int)] rfl (by exact u) rfl G 1 rfl rfl rfl U (by intro E C;simp at C;subst C;rfl) O U (by exact g.size) ?_;intro Y S ah s q L Q);have P:=Ac s;have K:=Ac (g.trans q);clear s q L Q;go_wp2;exact⟨⟨a+1,O,by go_num,by rw[d.out,AO,Agt];exact P,K⟩,mz⟩
   |false=>
    rw[z]at d;go_wp2;exact⟨⟨a+1,O,by go_num,by rw[d.out];exact u,g⟩,mz⟩
  ·obtain⟨M,N⟩:=wO A;obtain rfl:a=e:=O;go_wp2;go_ret;exact⟨_,rfl,c,f⟩
section
variable{w w':jT}{d p L:Nat}{s:St}{tb o n cT cH:Nat}
def dK(s:St)(i:Nat):List Nat:=(Wv (Iu s i)).map λa=>D7 s.sh i (Bj (Iu s i)) a
def U2(s:St)(i:Nat):List Nat:=(Ea i).flatMap (dK s)
def jq(s:St)(i:Nat):U2 s (i+1)=U2 s i++dK s i:=by simp[U2,Qe]
def yY(s:St)(i:Nat):(dK s i).length<=16:=by
 unfold dK;rw[Df];exact AZ (JV _ _) (by simp[Kt])
def pV(s:St):∀a,(U2 s a).length<=16*a
 |0=>by simp[U2]
 |a+1=>by rw[jq,AO];have:=pV s a;have:=yY s a;omega
def Ano(h:JF w d p L s tb o n cT cH):Calls prog 96 #[AB p] w λe w'=>∃aW,e=iO aW/\w'.ownsRow w 3 1 aW (sJ s).length (nvs (sJ s))/\η w w':=by
 have ap:=Ac (Iy h);have ae:=Ac h;have b7:=h.y5;have bO:n<=64:=Ξ h.ok.fits h.L1 h.oJ;have aw:sJ s=U2 s n:=by unfold sJ U2;rw[h.TL];rfl
 rw[aw];clear h aw;go_enter func96,ntmps96;go_wp2_with(refine ap.out.ro ?_;clear ap);go_loopw [3,15](λD m wr=>∃c:Nat,c<=n/\m=gz iU (c:Nat)/\wr.ownsRow w 3 1 D (U2 s c).length (nvs (U2 s c))/\η w wr)(λ_ m _=>n-(intOf m).toNat)
 case atStart=>exact⟨0,Bd _,rfl,Ce _ _ _ _,mZ⟩
 case round=>
  obtain⟨c,bX,rfl,C,o⟩:=hrel;have t:=Ac C;have G:=Ac o;clear C o;by_cases M:c<n
  ·obtain⟨b4,bx,bA⟩:=XH M;have b3:IntKind.i64.wrap ((c:Int)+1)=(c:Int)+1:=wrap64 _ O O;have b8:=(ae.below G).tk c M;have aM:=TM s c;have br:=PS (Iu s c);have bS:=pV s c;obtain⟨ar,bc,a7⟩:=l9 (Ai7 (Iu s c) wr aM) (λV=>IL (Iu s c) V aM) (λ(V:jT)a(bp:η w V)(Y:a<=16)=>Xf (ae.below bp) c (Bj (Iu s c)) a M br Y);have bi:Hid (U2 s (c+1)=U2 s c++(Wv (Iu s c)).map λa=>D7 s.sh c (Bj (Iu s c)) a):=Ac (jq s c);have bt:∀a∈Wv (Iu s c),a<=16:=λa Y=>by
    have:=List.mem_range.1 (List.mem_filter.1 Y).1;have:=Kt (Bj (Iu s c));omega
   have bY:(Wv (Iu s c)).length<=16:=AZ (JV _ _) (by simp[Kt]);generalize Wv (Iu s c)=f at*;generalize Bj (Iu s c)=i at*;generalize Iu s c=x at*;generalize U2 s c=k at*;go_wp2_with fail;refine ar.mono ?_;rintro e a0⟨bM,rfl,aa,Z⟩;have av:∀P au,bM=fM P f.length au->∀a,P=jm a->wr<=a.block/\a.block<a0:=λP au e a l=>by
    rcases aa.2 with⟨g,_⟩|⟨J,H,I,g,X,y,_⟩
    ·rw[g,l]at e;cases e
    ·rw[g,l]at e;injection e with e
     injection e with e
     rw[<-e];exact⟨X,(AL.1 y).1⟩
   obtain⟨F,bj,rfl,bW,aG⟩:=CY aa;have z:∀a,F=jm a->a.block<a0/\u3.ownBlock≠jm a.block:=λa l=>by
    obtain⟨g,X⟩:=av F bj rfl a l;refine⟨X,λe=>?_⟩;rcases t.out.2 with⟨y,_⟩|⟨J,H,I,y,_,bo,_⟩
    ·rw[y]at e;cases e
    ·rw[y]at e;injection e with e
     have:=(AL.1 bo).1;simp only at e;omega
   have ad:=Ac z;clear av z;have a8:=Ac aG;have a6:=Ac (τ G.out Z);have bh:=Ac (FN t (Kept.of_below (r:=jw) Z) (by
    rcases t.out.2 with⟨g,_⟩|⟨J,H,I,g,_⟩
    ·exact .inr (by subst g;rfl)
    ·exact .inl (by subst g;exact λe=>nomatch e)))
   clear ar aa Z aG t G;go_wp2_with fail;go_loopw [3,23](λD m wr=>∃j:Nat,j<=f.length/\m=gz iU (j:Nat)/\wr.ownsRow w 3 1 D (k++(f.take j).map λa=>D7 s.sh c i a).length (nvs (k++(f.take j).map λa=>D7 s.sh c i a))/\η w wr/\Rd wr F f.length (nvs f)/\∀a,F=jm a->a.block<wr/\D.ownBlock≠jm a.block)(λ_ m _=>f.length-(intOf m).toNat)
   case atStart=>exact⟨0,Bd _,rfl,by simpa using bh.out,a6.out,a8.out,ad.out⟩
   case round=>
    obtain⟨j,aE,rfl,C,o,aI,z⟩:=hrel;obtain⟨v,R,ah,a3⟩:=lL C o aI z;clear C o aI z ad;by_cases q:j<f.length
    ·obtain⟨b5,bB,bE⟩:=XH q;have b2:IntKind.i64.wrap ((j:Int)+1)=(j:Int)+1:=wrap64 _ O O;obtain⟨b,ab,rfl,bV,aD⟩:=ah.2 O;have a2:=aD j q;rw[nvs,List.getElem?_map,Ag q]at a2;simp only[Option.map_some]at a2;clear aD;have bq:=bt f[j] (BO q);have bb:Hid (k++(f.take (j+1)).map (λa=>D7 s.sh c i a)=k++(f.take j).map (λa=>D7 s.sh c i a)++[D7 s.sh c i f[j]]):=Ac (by
      rw[List.take_succ_eq_append_getElem q,CJ,List.append_assoc];rfl)
     have b0:(k++(f.take j).map λa=>D7 s.sh c i a).length<=2000:=by
      simp only[AO,Df,List.length_take];omega
     generalize f[j]=a at*;generalize(k++(f.take j).map λa=>D7 s.sh c i a)=ao at*;go_wp2_with fail;refine(bc wr).mono ?_;rintro e bN⟨rfl,A⟩;have Q:=A.below w;have T:=Ac (R.trans (A.below w));have ac:=Ac (a7 bN a T bq);have u:=Ac (FN v (Kept.of_below (r:=jw) (A.below _)) (by
      rcases v.out.2 with⟨g,_⟩|⟨J,H,I,g,_⟩
      ·exact .inr (by subst g;rfl)
      ·exact .inl (by subst g;exact λe=>nomatch e)))
     clear v R;go_wp2_with fail;refine ac.mono ?_;rintro e E⟨rfl,B⟩;have be:=Ac (T.trans (B.below w));have bL:=Ac (FN u (Kept.of_below (r:=jw) (B.below _)) (by
      rcases u.out.2 with⟨g,_⟩|⟨J,H,I,g,_⟩
      ·exact .inr (by subst g;rfl)
      ·exact .inl (by subst g;exact λe=>nomatch e)))
     have al:=be;have b1:wr.heap.size<=E:=AZ (Q.size) (B.below w).size;have aR:Rd E (jm (Δ b ab)) f.length (nvs f):=Rd.below ah ((A.below _).trans ((B.below _).mono Q.size));have S:=Ac aR;clear ac B u T aR A Q;go_wp2_with(at_builtin;refine BU rfl (.tmp 27) (.tmp 34) 117 rfl Tryz.Zj E w u3 ao.length (nvs ao) [gz iU ((D7 s.sh c i a:Nat):Int)] rfl (by exact bL) rfl E 1 rfl rfl rfl U (by intro D aL;simp at aL;subst aL;rfl) O U (by exact al.out.size) ?_;intro bm bR a1 an am K aq);have bg:=Ac an;have bd:=Ac (al.out.trans am);have N:=(a3 _ rfl).2;simp only at N;have a9:Hid (Rd a1 (jm (Δ b ab)) f.length (nvs f)):=Ac (by
      refine⟨S.1,λbw=>?_⟩;obtain⟨bQ,b6,W,az,a4⟩:=S.2 bw;injection W with W
      injection W with bk bl
      subst bk bl;exact⟨b,ab,rfl,Bc az K.1,λj aE=>(BQ (w:=E) (K.2 b az (λe=>N e.symm))).trans (a4 j aE)⟩)
     have a5:Hid (b<a1/\jm bm≠jm b):=Ac (by
      refine⟨Ω K.1,λe=>?_⟩;injection e with e
      rcases aq with h|h
      ·exact N (by rw[h,e])
      ·omega)
     clear an am K aq N S;go_wp2;exact⟨⟨j+1,O,by go_num,by rw[bb.out,AO,Agt];exact bg,bd,a9,λa l=>by injection l with l;subst l;exact a5⟩,mz⟩
    ·obtain⟨bB,bE⟩:=wO q;have bs:j=f.length:=O;subst bs;have u:Hid (wr.ownsRow w 3 1 u3 (k++f.map λa=>D7 s.sh c i a).length (nvs (k++f.map λa=>D7 s.sh c i a))):=Ac (by have:=v.out;rwa [List.take_length]at this);have ba:=R;clear v;go_wp2;exact⟨⟨c+1,O,by go_num,by rw[bi.out];exact u,ba.out⟩,mz⟩
  ·obtain⟨bx,bA⟩:=wO M;obtain rfl:c=n:=O;go_wp2;go_ret;exact⟨_,rfl,t,G⟩
end
def Ar2(b c d:Nat)(a:jT)(u:FrameMode)(h:a.cell? (Φ b)=jm (gz iU 0)):
 CallsD prog 281 #[AB b,AB c,AB d] u a λe f w'=>f=u/\(e=iO (iJ #[])/\w'=a):=by
 go_enter_d func281,ntmps281
 go_wp2;go_end0;exact⟨rfl,rfl⟩
def Fg.O5{m:DJ}{w:jT}{d p L:Nat}{s:St}{F:Nat->Prop}(h:Fg m w d p L s F){b:Nat}(i:Nat)(v:Value)(o:¬F b)(c:b≠0)(e:b≠1):Fg m (w.setCell (Δ b i) v) d p L s F:=
 h.keep (G:=λg=>g=b) ((Touch.refl (·=b) w).setCell (p:=Δ b i) (.inl rfl) v) (λ_ f a=>o (a▸f)) (λa=>c a.symm) (λa=>e a.symm)
def JI(q:Ms)(r:Rc):Ms×ni×Int:=
 if Et r=jS then(q,0,2)else
 match Ei q.s 1 with
 |none=>(q,0,6)
 |some (a,f)=>
  match KG ⟨q.pw,f⟩ (Nu (a/8) 8) (CQ f.ws (a/8) (EE r))with
  |(d,b)=>if b=0 then(match J6 d a with|(e,c)=>if c=0 then(e,Az a,0)else((DT e a).1,0,c))else((DT d a).1,0,b)
def Anp(s:St)(r:Rc):JI ⟨.up (-1),s⟩ r=(⟨.up (-1),(NY s r).1⟩,(NY s r).2):=by
 unfold JI NY;cases Et r
 ·rfl
 ·simp only[Bool.true_eq_false,if_false];cases Ei s 1 with
  |none=>rfl
  |some a=>
   obtain⟨b,c⟩:=a;simp only[QU,oM,if_true];split
   ·rfl
   ·rw[PU]
def Agu{q:Ms}{d p L:Nat}{F:Nat->Prop}(b c e:Nat)(off er:Int)(a:jT)(u:FrameMode)(h:a.cell? (Φ b)=jm (gz iU er))(g:er≠0)(h1:a.cell? (Φ c)=jm (AB p))(h2:a.cell? (Φ e)=jm (gz iU off))
 (i:LY a d p L q F)(k: -9223372036854775808<=off/\off<=9223372036854775807):
 CallsD prog 281 #[AB b,AB c,AB e] u a λf m w'=>m=u/\(f=iO (iJ #[])/\∃F',LY w' d p L (DT q off).1 F'/\AQ F F' a w'):=by
 have j:=Ac (LZ i off k);have t1:(er==0)=false:=ζ g;clear i g
 go_enter_d func281,ntmps281
 go_wp2_with(refine j.out.mono ?_;rintro f n⟨rfl,l⟩);go_end0;exact⟨rfl,l⟩
def yZ(q:Ms)(r:Rc)(d p L:Nat)(F:Nat->Prop)(w:jT)(e:Ending)(w':jT):Prop:=
 e=iO (iJ #[gz iV ((JI q r).2.1.toNat:Int),gz iU (JI q r).2.2])/\∃F',LY w' d p L (JI q r).1 F'/\AQ F F' w w'
section
variable{w w':jT}{d p L:Nat}{s:St}{F:Nat->Prop}{q:Ms}
def Ai8(h:LY w d p L q F)(r:Rc)(cU:r.text.size<=4294967296):
 Calls prog 278 #[AB d,AB p,rcV r] w (yZ q r d p L F w):=by
 obtain⟨S,W⟩:=ε (((w.alloc (ji #[AB p] 78)).alloc (ji #[r.nK,r.next,r.gone,r.text] 195)).alloc (ji #[gz iU 0] 38));have bw:η w S:=by
  rw[W];exact((mZ.alloc (Ae _) _).alloc Θ _).alloc (by simp;omega) _
 have cV:S.heap.size=w.heap.size+3:=by rw[W];simp
 have i:Cm S w.heap.size 78 [AB p]:=by
  rw[W];exact(χ _ _ (by simp;omega)).trans ((χ _ _ Θ).trans (heap_alloc_new _ _))
 have K:Cm S (w.heap.size+1) 195 [r.nK,r.next,r.gone,r.text]:=by
  rw[W];have:=heap_alloc_new (w.alloc (ji #[AB p] 78)) (ji #[r.nK,r.next,r.gone,r.text] 195);rw[show(w.alloc (ji #[AB p] 78)).heap.size=w.heap.size+1 by simp]at this;exact(χ _ _ Θ).trans this
 have c:Cm S (w.heap.size+1+1) 38 [gz iU 0]:=by
  rw[W];have:=heap_alloc_new ((w.alloc (ji #[AB p] 78)).alloc (ji #[r.nK,r.next,r.gone,r.text] 195)) (ji #[gz iU 0] 38);rw[show((w.alloc (ji #[AB p] 78)).alloc (ji #[r.nK,r.next,r.gone,r.text] 195)).heap.size=w.heap.size+1+1 by simp]at this;exact this
 obtain⟨cc,bk⟩:∃b,b=w.heap.size+1:=⟨_,rfl⟩;obtain⟨a,bl⟩:∃b,b=w.heap.size+1+1:=⟨_,rfl⟩;rw[<-bl]at c;rw[<-bk]at K;have E:=i.c0;have G:=c.c0;have f2:=c.frozen 0;obtain⟨c1,c2,c3,c4,_,_,_,_⟩:=Dp K;obtain⟨Y,bW,b1,bo,a8,cE,aq,cH,cC⟩:=lT h bw (Zh (h.below bw)) (oZ r S cU) i K c W bk;have cD:=Ac bl;have c7:w.heap.size<cc/\cc<a/\a<S.heap.size:=O;have az:=Ac h.lt;unfold rcV at bo⊢;clear h bw cV i K c W;obtain⟨z,s⟩:=q
 go_enter_defers func278,ntmps278
 go_wp2_with fail;rw[<-cH.out,<-cD.out,<-cC.out];refine b1.ro ?_;clear b1 bk bl;go_wp2_with fail;refine bo.mono ?_;rintro m da⟨ab,ac⟩;have a7:=Ac (τ bW.out ab);have i:=a8.out.ξ ab;have K:=cE.out.ξ ab;have c:=aq.out.ξ ab;replace E:=i.c0;replace G:=c.c0;replace f2:=c.frozen 0;have c8:=ab.size;clear bo ab c1 c2 c3 c4;cases N:Et r with
 |false=>
  rw[N]at ac;replace ac:m=iO (iJ #[fM jw 0 0,jS]):=ac;subst ac;have u:Hid (JI ⟨z,s⟩ r=(⟨z,s⟩,0,2)):=Ac (by unfold JI;rw[kX N]);have bX:=Ac (a7.setCell (p:=Δ a 0) (by show _<=a;omega) (gz iU 2));have j:=c.Be 0 (gz iU 2);have t:=j.cell 0;simp only[Aq,Af]at t;clear N i K c j;go_wp2_with fail;refine⟨iJ #[gz iV 0,gz iU 2],by simp[results,results278,go_sem,t],?_,F,?_,mW bX⟩
  ·rw[u.out];rfl
  ·rw[u.out];exact Fg.below Y bX
 |true=>
  rw[N,kX rfl]at ac;obtain⟨aE,rfl,bB⟩:=ac;obtain⟨bq,ba,cF,a8,aq⟩:=lM bB (Yi (Y.below a7) 1 U U) N i c;cases I:Ei s 1 with
  |none=>
   have aM:resV s 1=iJ #[gz iU 0,gz iU 6]:=by unfold resV;rw[I]
   have aL:Xm s 1=s:=by unfold Xm;rw[I]
   rw[aM,aL]at ba;have u:Hid (JI ⟨z,s⟩ r=(⟨z,s⟩,0,6)):=Ac (by unfold JI;rw[lg (by rw[N];exact λm=>nomatch m)];simp only[I]);clear aM aL I N bB i K c;go_wp2_with fail;refine ba.mono ?_;rintro m J⟨rfl,aI,x⟩;have y:¬F a:=λn=>Ω (az a n)
   have c:=aq.touch x.touch y;have bd:Cm (J.alloc (ji #[gz iU 0] 3)) a 38 [gz iU 0]:=(χ _ _ c.lt).trans c;have j:=bd.Be 0 (gz iU 6);have aD:=bd.cell 0;have bt:=bd.frozen 0;have t:=j.cell 0;have f3:=j.frozen 0;simp only[Aq,Af]at t aD;have B:η J (J.alloc (ji #[gz iU 0] 3)):=mZ.alloc (Ae _) _;have cf:0<w.heap.size/\1<w.heap.size:=Y.tabs.lt;have cq:Hid (LY ((J.alloc (ji #[gz iU 0] 3)).setCell (Δ a 0) (gz iU 6)) d p L ⟨z,s⟩ F):=Ac ((Fg.below aI B).O5 0 _ y O O);have cr:Hid (AQ F F w ((J.alloc (ji #[gz iU 0] 3)).setCell (Δ a 0) (gz iU 6))):=Ac (((mW (F:=F) a7).trans (x.below B)).set (p:=Δ a 0) (.inr (by show _<=a;omega)) _);have cs:=Ac (cq.O5 0 (gz iU 6) y O O);have ct:=Ac (cr.set (p:=Δ a 0) (.inr (by show _<=a;omega)) (gz iU 6));clear c bd j B cf aI x y;go_wp2_with fail;go_region
   all_goals(go_wp2_with fail)
   all_goals(refine⟨iJ #[gz iV 0,gz iU 6],by simp[results,results278,go_sem,t],by rw[u.out];rfl,F,?_,ct.below (mX _)⟩)
   all_goals(rw[u.out])
   all_goals(exact Fg.below cs (mX _))
  |some cX=>
   obtain⟨e,am⟩:=cX;have aM:resV s 1=iJ #[e,gz iU 0]:=by unfold resV;rw[I]
   have aL:Xm s 1=am:=by unfold Xm;rw[I]
   rw[aM,aL]at ba;obtain⟨_,_,co,b5⟩:=Y.pos;obtain⟨ad,cg,ch⟩:=jh co b5 (.inl rfl) I;obtain⟨⟨al,g⟩,bE⟩:∃bO,bO=KG ⟨z,am⟩ (Nu (e/8) 8) (CQ am.ws (e/8) (EE r)):=⟨_,rfl⟩;have u:Hid (JI ⟨z,s⟩ r=if g=0 then(match J6 al e with|(ah,m)=>if m=0 then(ah,Az e,0)else((DT ah e).1,0,m))else((DT al e).1,0,g)):=Ac (by
    unfold JI;rw[lg (by rw[cF.out];exact λm=>nomatch m)];simp only[I,<-bE])
   have a9:=Ac bE;have bp:=Ac cg;have c6:e+64<=64*L/\L<=1024:=⟨by simp only[Bq]at ch;omega,Y.pos.2.1⟩;clear aM aL I N bB i K c co b5 cg ch bE;go_wp2_with fail;refine ba.mono ?_;rintro m J⟨rfl,aI,x⟩;have y:¬F a:=λn=>Ω (az a n)
   have a5:¬F w.heap.size:=λn=>Ω (az _ n)
   have cR:=x.touch.size;obtain⟨T,aa⟩:=ε (J.alloc (ji #[e] 3));obtain⟨l,aG⟩:∃b,b=J.heap.size:=⟨_,rfl⟩;have B:η J T:=by rw[aa];exact mZ.alloc (Ae _) _
   have c:=(aq.touch x.touch y).below B (aq.touch x.touch y).lt;have i:=(a8.touch x.touch a5).below B (a8.touch x.touch a5).lt;have j:Cm T l 3 [e]:=by rw[aa,aG];exact heap_alloc_new _ _
   have cm:Ws T (jm (Φ aE)) 8 (EE r):=by
    have cM:=(Dk bq).2;have cN:∀bg,jm ((Φ aE):Addr)=jm bg->¬F bg.block:=λbg X n=>by
     obtain⟨cL,H,cQ,_⟩:=Qk bq U;injection H with H
     injection H with H
     injection X with X
     subst X;have:=az _ n;have:=bW.size;show False;simp only at*;omega
    exact Ws.below (Rd.touch cM x.touch cN) B
   have cf:0<w.heap.size/\1<w.heap.size:=Y.tabs.lt;have ci:=aI.below B;have c5:a<l:=O;have b2:=Ac (λ(ca:jT)(h:LY ca d p L ⟨z,am⟩ F)(cW:Ws ca (jm (Φ aE)) 8 (EE r))=>ay h ad 8 8 (jm (Φ aE)) (EE r) (Ω bp.out) U cW);have E:=i.c0;have G:=c.c0;have f2:=c.frozen 0;have t:=j.c0;rw[aa]at E G f2 t;rw[aG]at t;have cj:=ci.O5 0 (gz iU 0) y (b:=a) O O;have cn:Ws (T.setCell (Δ a 0) (gz iU 0)) (jm (Φ aE)) 8 (EE r):=by
    refine Rd.touch cm ((Touch.refl (·=a) T).setCell (p:=Δ a 0) (.inl rfl) _) (λbg X m=>?_);obtain⟨cL,H,cQ,_⟩:=Qk bq U;injection H with H
    injection H with H
    injection X with X
    subst X;simp only at m;omega
   have Q:=b2 _ cj cn;rw[show 8+((ad+8-1)/8-ad/8+1)+1=Nu ad 8 from rfl]at Q;have cd:ad=e/8:=Ω bp.out;rw[show((8*ad:Nat):Int)=(e:Int)by have:=bp.out;omega,cd,<-a9.out]at Q;have Q:=Ac Q;have av:=c.Be 0 (gz iU 0);have br:=i.far (show w.heap.size≠a by omega) 0 (gz iU 0);have aw:=j.far (show l≠a by omega) 0 (gz iU 0);simp only[Aq]at av;have bA:AQ F F w (T.setCell (Δ a 0) (gz iU 0)):=((mW (F:=F) a7).trans (x.below B)).set (p:=Δ a 0) (.inr (by show _<=a;omega)) _;have cK:=aw.p1;rw[aa,aG]at cK;have bR:=aw.lt;have a6:=av.lt;obtain⟨cb,bs⟩:=ε (T.setCell (Δ a 0) (gz iU 0));rw[<-bs]at Q av br aw bA bR a6;obtain⟨bY,cu,cv,cw,cY,cI,cz⟩:=lQ bA av br aw bs aa aG;have bS:¬F l:=λn=>Ω (az _ n)
   clear cd cj cn av br aw bA bs cm ci aI x i c j B b2 cR aa aG;go_wp2_with fail;rw[<-cI.out,<-cY.out,<-cz.out];refine Q.out.mono ?_;rintro m a2⟨rfl,an,bh,M⟩;have c:=cu.touch M.touch y;have i:=cv.touch M.touch a5;have j:=cw.touch M.touch bS;have V:∀b,b<cb.heap.size->¬F b->¬an b:=λb o cS n=>(M.own b n).elim cS (λh=>O)
   have ce:g=0\/g=12:=by have:=Amr ⟨z,am⟩ (Nu (e/8) 8) (CQ am.ws (e/8) (EE r));rw[<-a9.out]at this;exact this
   by_cases aR:g=0
   rotate_left
   ·have t5:(g !=0)=true:=by simpa using aR
    have P:=V a a6 y;have E:=i.cell 0;have G:=c.cell 0;have f2:=c.frozen 0;have t:=j.cell 0;have v:=c.Be 0 (gz iU g);have R:=v.Be 0 (gz iU g);have d2:=v.cell 0;have bt:=v.frozen 0;have C:=R.cell 0;simp only[Af,Aq]at E G t d2 C;have ar:Hid (LY ((a2.setCell (Δ a 0) (gz iU g)).setCell (Δ a 0) (gz iU g)) d p L al an):=Ac ((Fg.O5 bh 0 (gz iU g) P O O).O5 0 (gz iU g) P O O);have ap:=Ac ((((bY.trans M).set (p:=Δ a 0) (.inr (by show _<=a;omega)) (gz iU g))).set (p:=Δ a 0) (.inr (by show _<=a;omega)) (gz iU g));have a3:=((i.far (show w.heap.size≠a by omega) 0 (gz iU g)).far (show w.heap.size≠a by omega) 0 (gz iU g)).c0;have a4:=((j.far (show l≠a by omega) 0 (gz iU g)).far (show l≠a by omega) 0 (gz iU g)).c0;have bm:=R.lt;have D:=Ac (And.intro C (And.intro a3 a4));have au:Hid (JI ⟨z,s⟩ r=((DT al e).1,0,g)):=Ac (by rw[u.out,lg aR]);have cJ:e<=65536:=O;have cA:=Ac aR;clear bh M i c j v R V Q C a3 a4 aR ce u a9;go_wp2_with fail;go_region
    all_goals(go_wp2_with fail)
    all_goals(refine leaves_cons (f:=281) (args:= #[AB a,AB w,AB l]) Θ (by simp[go_sem]) ?_)
    all_goals(refine(Agu a w.heap.size l (e:Int) g (lY ((a2.setCell (Δ a 0) (gz iU g)).setCell (Δ a 0) (gz iU g))) .returning (by exact D.1) cA (by exact D.2.1) (by exact D.2.2) (Fg.below ar (mX _)) O).mono ?_)
    all_goals(rintro m cp bj⟨rfl,rfl,F',bM,bx⟩)
    all_goals(have a0:=(mW ((Dr.drew ((a2.setCell (Δ a 0) (gz iU g)).setCell (Δ a 0) (gz iU g))).below _)).trans bx)
    all_goals(have bQ:bj.cell? (Φ a)=jm (gz iU g):=(BQ (a0.touch.block a bm P)).trans D.1)
    all_goals(refine⟨iJ #[gz iV 0,g],by simp[results,results278,go_sem,bQ],by rw[au.out];rfl,F',by rw[au.out];exact bM,ap.trans a0⟩)
   subst aR;clear ce;have ck:LY _ d p L al an:=Fg.O5 bh 0 (gz iU 0) (b:=a) (V a a6 y) O O;obtain⟨⟨a1,k⟩,bL⟩:∃bO,bO=J6 al e:=⟨_,rfl⟩;have ae:=iq ck (e:Int) O;rw[<-bL]at ae;have ae:=Ac ae;have bc:Hid (JI ⟨z,s⟩ r=if k=0 then(a1,Az e,0)else((DT a1 e).1,0,k)):=Ac (by rw[u.out,kX rfl,<-bL]);have E:=i.cell 0;have G:=c.cell 0;have f2:=c.frozen 0;have t:=j.cell 0;have v:=c.Be 0 (gz iU 0);have d0:=(i.far (show w.heap.size≠a by omega) 0 (gz iU 0)).cell 0;have d3:=(j.far (show l≠a by omega) 0 (gz iU 0)).cell 0;have d2:=v.cell 0;simp only[Af,Aq]at E G t d0 d2 d3;have b0:=Ac ((bY.trans M).set (p:=Δ a 0) (.inr (by show _<=a;omega)) (gz iU 0));clear bh ck;have b8:=i.far (show w.heap.size≠a by omega) 0 (gz iU 0);have b9:=j.far (show l≠a by omega) 0 (gz iU 0);have cP:Hid (∀b,b<cb.heap.size->¬F b->¬an b):=Ac V;have P:=V a a6 y;have bV:=V l bR bS;obtain⟨bb,b3,cG⟩:=l9 v b9 b8;clear V M i c j v b8 b9 bL u a9 Q;go_wp2_with fail;refine ae.out.mono ?_;rintro m bN⟨rfl,ao,bi,A⟩;by_cases aW:k=0
   rotate_left
   ·have t7:(k !=0)=true:=by simpa using aW
    have cx:¬an w.heap.size:=cP _ O a5;have c:=bb.touch A.touch P;have j:=b3.touch A.touch bV;have i:=cG.touch A.touch cx;have cy:a<(a2.setCell (Δ a 0) (gz iU 0)).heap.size:=bb.lt;have Z:¬ao a:=λn=>(A.own a n).elim P (λh=>O)
    have aD:=c.cell 0;have bt:=c.frozen 0;have v:=c.Be 0 (gz iU k);have R:=v.Be 0 (gz iU k);have ah:=v.cell 0;have c0:=v.frozen 0;have C:=R.cell 0;simp only[Af,Aq]at aD ah C;have ar:Hid (LY ((bN.setCell (Δ a 0) (gz iU k)).setCell (Δ a 0) (gz iU k)) d p L a1 ao):=Ac ((Fg.O5 bi 0 (gz iU k) Z O O).O5 0 (gz iU k) Z O O);have ap:=Ac ((((b0.trans A).set (p:=Δ a 0) (.inr (by show _<=a;omega)) (gz iU k))).set (p:=Δ a 0) (.inr (by show _<=a;omega)) (gz iU k));have a3:=((i.far (show w.heap.size≠a by omega) 0 (gz iU k)).far (show w.heap.size≠a by omega) 0 (gz iU k)).c0;have a4:=((j.far (show l≠a by omega) 0 (gz iU k)).far (show l≠a by omega) 0 (gz iU k)).c0;have bm:=R.lt;have D:=Ac (And.intro C (And.intro a3 a4));have au:Hid (JI ⟨z,s⟩ r=((DT a1 e).1,0,k)):=Ac (by rw[bc.out,lg aW]);have cJ:e<=65536:=O;have cB:=Ac aW;clear bi A i c j v R ae C a3 a4 aW bc E G f2 t d0 d2 d3;go_wp2_with fail;go_region
    all_goals(go_wp2_with fail)
    all_goals(refine leaves_cons (f:=281) (args:= #[AB a,AB w,AB l]) Θ (by simp[go_sem]) ?_)
    all_goals(refine(Agu a w.heap.size l (e:Int) k (lY ((bN.setCell (Δ a 0) (gz iU k)).setCell (Δ a 0) (gz iU k))) .returning (by exact D.1) cB (by exact D.2.1) (by exact D.2.2) (Fg.below ar (mX _)) O).mono ?_)
    all_goals(rintro m cp bj⟨rfl,rfl,F',bM,bx⟩)
    all_goals(have a0:=(mW ((Dr.drew ((bN.setCell (Δ a 0) (gz iU k)).setCell (Δ a 0) (gz iU k))).below _)).trans bx)
    all_goals(have bQ:bj.cell? (Φ a)=jm (gz iU k):=(BQ (a0.touch.block a bm Z)).trans D.1)
    all_goals(refine⟨iJ #[gz iV 0,k],by simp[results,results278,go_sem,bQ],by rw[au.out];rfl,F',by rw[au.out];exact bM,ap.trans a0⟩)
   subst aW;rw[kX rfl]at bc;have u:=bc;have c:=bb.touch A.touch P;have j:=b3.touch A.touch bV;have cy:a<(a2.setCell (Δ a 0) (gz iU 0)).heap.size:=bb.lt;have Z:¬ao a:=λn=>(A.own a n).elim P (λh=>O)
   have aD:=c.cell 0;have bt:=c.frozen 0;have be:=c.Be 0 (gz iU 0);have b6:=j.far (show l≠a by omega) 0 (gz iU 0);have ah:=be.cell 0;have c0:=be.frozen 0;have cZ:=b6.cell 0;have b7:=be.Be 0 (gz iU 0);have C:=b7.cell 0;simp only[Af,Aq]at aD ah cZ C;have cl:LY _ d p L a1 ao:=(Fg.O5 bi 0 (gz iU 0) Z O O).O5 0 (gz iU 0) Z O O;obtain⟨ar,ap,b4⟩:=l9 cl (((b0.trans A).set (p:=Δ a 0) (.inr (by show _<=a;omega)) (gz iU 0)).set (p:=Δ a 0) (.inr (by show _<=a;omega)) (gz iU 0)) C;have c9:IntKind.u64.wrap (e:Int)=(e:Int):=by rw[IntKind.wrap_u64];omega
   have cT:Hid ((Az e).toNat=e):=Ac (by rw[IX];exact Nat.mod_eq_of_lt O);clear bi A c j be b6 b7 cl E G f2 t d0 d2 d3 ae;go_wp2_with fail;refine leaves_cons (f:=281) (args:= #[AB a,AB w,AB l]) Θ (by simp[go_sem]) ?_;refine(Ar2 a w.heap.size l _ .returning ?_).mono ?_
   ·simp[b4.out]
   rintro m cp bj⟨rfl,rfl,rfl⟩;refine⟨iJ #[gz iV (e:Int),gz iU 0],by simp[results,results278,go_sem,b4.out],?_,ao,?_,ap⟩
   ·rw[u.out,cT.out]
   ·rw[u.out];exact ar
end
def Tryz.Ar5:IK prog 117 3 (gz iU 0) 1 8:=⟨underlying117,by kernel_rfl,rfl⟩
section
variable{w w':jT}{x d p L:Nat}{s:St}{F:Nat->Prop}
def Ud{q:Ms}(h:pz w x d p L q F)(a:Pl)(A:Aiv L a)(b c e:Option Addr)(j f k g l i:Nat)(n:ni):
 Calls prog 139 #[AB x,.agg #[fM b j f,a.nd.val,fM c k g,fM e l i,a.off,a.label,a.word],n] w λv w'=>
  v=iO (gz iU (Oi q a n).2)/\∃F',pz w' x d p L (Oi q a n).1 F'/\AQ F F' w w':=by
 obtain⟨m,z,I⟩:=A.off;obtain⟨Q,R,N,D⟩:=h.L0;have t:η w (w.alloc (ji #[fM b j f,a.nd.val,fM c k g,fM e l i,a.off,a.label,a.word] 213)):=mZ.alloc (Ae _) _;have r:=Ac (λ(E:jT)(H:η w E)=>Sv (q:=q) (h.below H).sys (m+2) n O);rw[show((8*(m+2):Nat):Int)=a.off+16 by omega]at r;have C:=Ac h;have B:Oi q a n=KG q 3 (DD q.s.ws (m+2) n):=by unfold Oi;rw[z,show((8*m:Nat):Int).toNat/8=m by omega]
 rw[<-B]at r;generalize Oi q a n=S at r⊢;have P:IntKind.i64.wrap (a.off+16)=a.off+16:=wrap64 _ O O;have U:=(t.cell (p:=Δ x 0) h.box.lt).trans (h.box.c0);have u:Cm (w.alloc (ji #[fM b j f,a.nd.val,fM c k g,fM e l i,a.off,a.label,a.word] 213)) w 213 [fM b j f,a.nd.val,fM c k g,fM e l i,a.off,a.label,a.word]:=heap_alloc_new _ _;have V:=(Fh u).2.2.2.2.1;generalize a.off=M at*;clear h B A z I N D u;go_in;go_wp2_with fail;generalize w.alloc (ji #[fM b j f,a.nd.val,fM c k g,fM e l i,M,a.label,a.word] 213)=G at*;go_region_with(go_at_call 169;go_loud(refine(r _ (t.trans (mX _))).mono ?_;rintro v T⟨rfl,F',J,K⟩))
 all_goals(go_wp2)
 all_goals(go_ret)
 all_goals(have y:=(mW (F:=F) (t.trans (mX G))).trans K;exact⟨rfl,F',C.move J y,y⟩)
def Ai9{q:Ms}(h:LY w d p L q F)(j n c:Nat)(A:Option Addr)(xs:List ni)(e:j+n<=8*L)(f:0<n)(i:Ws w A n xs){r:Ms}{a:Int}(g:KG q (Nu j n) (CQ q.s.ws j xs)=(r,a)):
 Calls prog 22 #[AB d,gz iU ((8*j:Nat):Int),fM A n c] w λb w'=>b=iO a/\∃F',LY w' d p L r F'/\AQ F F' w w':=by
 have:=ay h j n c A xs e f i;rw[show n+((j+n-1)/8-j/8+1)+1=Nu j n from rfl,g]at this;exact this
end
def Js(r:Jm×ni×Int)(pI jb x d p L:Nat)(G:Nat->Prop)(w:jT)(e:Ending)(w':jT):Prop:=
 e=iO (iJ #[r.2.1,r.2.2])/\∃a,GV w' pI jb x d p L r.1 a/\AQ G a w w'
section
variable{w w':jT}{pI jb x d p L:Nat}{j:Jm}{G:Nat->Prop}
def Ot(h:GV w pI jb x d p L j G)(a:Nd)(ar au aa:Option Addr)(a8 a9 aI:Nat)(cA:a.pre.length<=1000)(cB:a.labels.length<=1000)(cC:a.kids.length<=1000)
 (h1:Bs w ar a.pre.length a.pre)(h2:Bs w au a.labels.length a.labels)(h3:Ws w aa a.kids.length a.kids)(cE:j.made.length<=1000):
 Calls prog 189 #[AB jb,.agg #[fM ar a.pre.length a8,a.val,fM au a.labels.length a9,fM aa a.kids.length aI]] w (Js (DZ j a) pI jb x d p L G w):=by
 obtain⟨ae,aR,Q,R,S,T,o,cG⟩:=Al3 w 211 (fM ar a.pre.length a8) (gz iV (a.val.toNat:Int)) (fM au a.labels.length a9) (fM aa a.kids.length aI);obtain⟨N,K,a2,J⟩:=lL aR (UK ar au aa a.pre.length a8 a.labels.length a9 a.kids.length aI a ae O O O (h1.below o) (h2.below o) (h3.below o)) h o;clear aR h o h1 h2 h3;cases aM:CG a with
 |false=>
  have l:Hid (DZ j a=(j,0,5)):=Ac (by unfold DZ;rw[aM];rfl);go_in;go_wp2_with fail;rw[<-N.out];clear N;refine K.mono ?_;rintro i r⟨c,v⟩;rw[aM]at v;replace v:i=iO (iJ #[fM jw 0 0,jS]):=v;subst v;have y:=Ac (τ J.out c);clear c K Q R S T;go_wp2;go_ret2;refine⟨by rw[l.out];rfl,G,?_,mW y⟩;rw[l.out];exact a2.below y
 |true=>
  obtain⟨F,bm,bd,bR⟩:=a2.out;obtain⟨cI,cJ,b6,bE⟩:=bd.ix.L0;have A:=bd.below J;have aW:=Ac aM;have bV:(if a.kids.length<=4 then(1:Int)else 2)=((DI a:Nat):Int):=by unfold DI;split<;>rfl
  have aE:=Ac (λ(a6:jT)(cr cs ct:Value)=>YW cr cs ct aa a.kids.length aI a6 O);rw[bV]at aE;obtain⟨ab,a4,bq⟩:=l9 (λ(a6:jT)(aR:η ae a6)=>Yi (A.below aR).ix.sys (DI a) (Ω (VB a)) (Ω (VB a))) A bR;have t:=A.box.c0;have I:=A.box.c1;have u0:=A.ix.box.c0;have u1:=A.ix.box.c1;have V:=A.box.lt;have X:=A.ix.box.lt;have E:w.heap.size<ae:=O;have cw:=Ac b6;have cf:=Ac bE;clear bd bR A bV b6 bE aM;cases B:Ei j.s.s (DI a)with
  |none=>
   have ad:Hid (resV j.s.s (DI a)=iJ #[gz iU 0,gz iU 6]):=Ac (by unfold resV;rw[B]);have ac:Hid (Xm j.s.s (DI a)=j.s.s):=Ac (by unfold Xm;rw[B]);have l:Hid (DZ j a=(j,0,6)):=Ac (by unfold DZ;rw[aW.out,B];rfl);rw[ad.out,ac.out]at ab;clear ad ac B;go_in;go_wp2_with fail;rw[<-N.out];clear N;refine K.mono ?_;rintro i r⟨c,v⟩;rw[aW.out,kX rfl]at v;obtain⟨cu,rfl,W⟩:=v;obtain⟨av,bN,rfl,cn,bh⟩:=CY W;have y:=Ac c;replace t:=(c.cell (p:=Δ jb 0) V).trans t;replace I:=(c.cell (p:=Δ jb 1) V).trans I;replace u0:=(c.cell (p:=Δ x 0) X).trans u0;replace u1:=(c.cell (p:=Δ x 1) X).trans u1;replace Q:=(c.cell (p:=Δ w 0) E).trans Q;replace R:=(c.cell (p:=Δ w 1) E).trans R;replace S:=(c.cell (p:=Δ w 2) E).trans S;replace T:=(c.cell (p:=Δ w 3) E).trans T;have aw:jb<r:=Bc V c.size;have az:x<r:=Bc X c.size;clear c K W bh;go_wp2_with fail;go_region_with(first
    |(go_at_call 201;go_loud(refine(aE _ _ _ _).mono ?_;rintro i cv⟨rfl,u⟩;have Y:=(u.cell (p:=Δ jb 0) aw).trans t;have Z:=(u.cell (p:=Δ x 1) az).trans u1;have z:=(y.trans (((Dr.drew r).below ae))).trans (u.mono y.size)))
    |(go_at_call 218;go_loud(refine(ab _ z).mono ?_;rintro i H⟨rfl,am,aq⟩)))
   all_goals(obtain⟨n,f,k,g⟩:=(a4.below z).move bq am aq)
   all_goals(have M:Hid (∃n,GV H pI jb x d p L j n/\AQ G n w H):=Ac ⟨n,⟨F,bm,f,k⟩,(mW (τ J.out z)).trans g⟩)
   all_goals(clear f k g am aq z Y Z u)
   all_goals(go_wp2)
   all_goals(go_ret2)
   all_goals(refine⟨by rw[l.out];rfl,?_⟩)
   all_goals(rw[l.out])
   all_goals(exact M)
  |some cq=>
   obtain⟨e,ap⟩:=cq;obtain⟨an,bX,b0⟩:=jh cw cf (VB a) B;have ad:Hid (resV j.s.s (DI a)=iJ #[e,gz iU 0]):=Ac (by unfold resV;rw[B]);have ac:Hid (Xm j.s.s (DI a)=ap):=Ac (by unfold Xm;rw[B]);have bY:e/8=an:=O;obtain⟨⟨ao,P⟩,ba⟩:∃ci,KG ⟨j.s.pw,ap⟩ (Nu an (Eh a).length) (CQ ap.ws an (Eh a))=ci:=⟨_,rfl⟩;obtain⟨D,bb⟩:=ε (J6 ao (e:Int));have l:Hid (DZ j a=if P=0 then(if D.2=0 then(⟨D.1,j.made++[(e:Int)]⟩,Az e,0)else(⟨D.1,j.made++[(e:Int)]⟩,0,D.2))else(⟨ao,j.made++[(e:Int)]⟩,0,P)):=Ac (by unfold DZ;rw[aW.out,B,bb];simp only[Bool.not_true,Bool.false_eq_true,if_false,bY,ba]);have bB:=Ac ba;rw[ad.out,ac.out]at ab;have cF:(e:Int)<=65536:=O;have be:=Adz a;obtain⟨a5,cj,cg,ce⟩:=lL bb bX b0 be;have cd:Hid (0<(Eh a).length):=Ac (by rw[be];rcases VB a with i|i<;>rw[i]<;>decide);have ch:Hid (((Az e).toNat:Int)=(e:Int)):=Ac (by rw[IX];omega);have cH:IntKind.u64.wrap (e:Int)=(e:Int):=by
    exact IntWalk.u64_in _ O
   have cx:=Ac a2.lt;clear be b0 bb bX bY ba;clear ad ac B;go_in;go_wp2_with fail;rw[<-N.out];clear N;refine K.mono ?_;rintro i r⟨c,v⟩;rw[aW.out,kX rfl]at v;obtain⟨cu,rfl,W⟩:=v;obtain⟨av,bN,rfl,cn,bh⟩:=CY W;have y:=Ac c;replace t:=(c.cell (p:=Δ jb 0) V).trans t;replace I:=(c.cell (p:=Δ jb 1) V).trans I;replace u0:=(c.cell (p:=Δ x 0) X).trans u0;replace u1:=(c.cell (p:=Δ x 1) X).trans u1;replace Q:=(c.cell (p:=Δ w 0) E).trans Q;replace R:=(c.cell (p:=Δ w 1) E).trans R;replace S:=(c.cell (p:=Δ w 2) E).trans S;replace T:=(c.cell (p:=Δ w 3) E).trans T;have aw:jb<r:=Bc V c.size;have az:x<r:=Bc X c.size;have b3:Hid (MB r G av (Eh a).length ((Eh a).map wv)):=Ac (MB.Qn W (λb cD _ co=>Ψ (cx b co) J.size));clear c K W bh;go_wp2_with fail;go_region_with(first
    |(go_at_call 201;go_loud(refine(aE _ _ _ _).mono ?_;rintro i cv⟨rfl,u⟩;have Y:=(u.cell (p:=Δ jb 0) aw).trans t;have Z:=(u.cell (p:=Δ x 1) az).trans u1;have z:=(y.trans (((Dr.drew r).below ae))).trans (u.mono y.size)))
    |(go_at_call 218;go_loud(refine(ab _ z).mono ?_;rintro i H⟨rfl,am,aq⟩)))
   all_goals(obtain⟨n,f,k,g⟩:=(a4.below z).move (s':=⟨j.s.pw,ap⟩) bq am aq)
   all_goals(have bw:Hid (AQ G n w H):=Ac ((mW (τ J.out z)).trans g))
   all_goals(have bA:Hid (MB H n av (Eh a).length ((Eh a).map wv)):=Ac ((b3.below (((Dr.drew r).below r).trans u)).moved g))
   all_goals(have m:=Ac f)
   all_goals(have br:=Ac k)
   all_goals(clear f k g am aq z Y Z u t I u0 u1 Q R S T aw az b3)
   all_goals(have t:=m.out.box.c0)
   all_goals(have I:=m.out.box.c1)
   all_goals(have u0:=m.out.ix.box.c0)
   all_goals(have b5:=Ac m.out.row)
   all_goals(have bp:pI<=H:=Nat.le_of_lt (Nat.lt_of_le_of_lt m.out.bj m.out.box.lt))
   all_goals(have cp:j.made.length<=1000000:=O)
   all_goals(clear aE ab y J a4)
   all_goals(go_wp2_with(at_builtin;refine BU rfl (.tmp 39) (.tmp 41) 117 rfl Tryz.Ar5 H pI bm j.made.length (j.made.map zv) [zv (e:Int)] rfl b5 rfl H 1 rfl rfl rfl U (by simp[zv,Value.oneCell']) cp U bp ?_;intro cm ck bo bM bL aL b4;have aD:Cm bo jb 255 [AB x,bm]:=(aL.2 jb m.out.box.lt (λi=>m.out.mj i.symm)).trans m.out.box;have a7:Cm bo x 188 [AB d,AB p]:=(aL.2 x m.out.ix.box.lt (λi=>m.out.mx i.symm)).trans m.out.ix.box;have Y:=aD.cell 0;have Z:=aD.cell 1;have cl:=aD.frozen 1;have bO:=a7.cell 0;have bQ:=a7.cell 1;simp only[Af,List.getElem?_cons_succ]at Y Z bO bQ))
   all_goals(obtain⟨cy,f,k,g⟩:=m.out.app br (o:=(e:Int)) O bM bL aL b4)
   all_goals(obtain⟨cz,bS⟩:=ε (bo.setCell (Δ jb 1) (fM (jm (Φ cm)) (j.made.length+1) ck)))
   all_goals(rw[<-bS]at f g⊢)
   all_goals(have aG:=Ai9 (q:=⟨j.s.pw,ap⟩) f.ix.sys an (Eh a).length bN av (Eh a) (Ψ cg.out ce.out) cd (bA.moved g).1 bB)
   all_goals(rw[show((8*an:Nat):Int)=(e:Int)by have:=cj.out;omega]at aG)
   all_goals(have a0:=Ac (bw.trans g))
   all_goals(have a3:=Ac f)
   all_goals(have a1:=Ac k)
   all_goals(clear f k g bM bL aL b4 aD a7 Y Z cl bO bQ bS bw bA m br t I u0 b5 bp)
   all_goals(refine aG.mono ?_)
   all_goals(rintro i b7⟨rfl,b9,bi,bk⟩)
   all_goals(obtain⟨cb,f,k,g⟩:=a3.out.move a1 bi bk)
   all_goals(by_cases bc:P=0)
   all_goals first
    |(have bg:P≠0:=bc
      have C:Hid (DZ j a=(⟨ao,j.made++[(e:Int)]⟩,0,P)):=Ac (by rw[l.out,lg bg]);have t3:(P !=0)=true:=by rw[bne_iff_ne];exact bg
      have M:Hid (∃n,GV b7 pI jb x d p L ⟨ao,j.made++[(e:Int)]⟩ n/\AQ G n w b7):=Ac ⟨cb,⟨b9,_,f,k⟩,a0.out.trans g⟩;clear f k g bi bk aG a0 a3 a1 l bc bg a5 bB;go_wp2;go_ret2;refine⟨by rw[C.out];rfl,?_⟩;rw[C.out];exact M)
    |skip
   all_goals(subst bc)
   all_goals(rw[kX rfl]at l)
   all_goals(have ah:=iq (q:=ao) f.ix.sys (e:Int) O)
   all_goals(rw[<-a5.out]at ah)
   all_goals(have ah:=Ac ah)
   all_goals(have bx:=Ac (a0.out.trans g))
   all_goals(have bt:=Ac f)
   all_goals(have bs:=Ac k)
   all_goals(have t:=f.box.c0)
   all_goals(have u1:=f.ix.box.c1)
   all_goals(clear f k g bi bk aG a0 a3 a1)
   all_goals(go_wp2_with fail)
   all_goals(refine ah.out.mono ?_)
   all_goals(rintro i b8⟨rfl,ca,b1,bW⟩)
   all_goals(obtain⟨cc,f,k,g⟩:=bt.out.move bs b1 bW)
   all_goals(have M:Hid (∃n,GV b8 pI jb x d p L ⟨D.1,j.made++[(e:Int)]⟩ n/\AQ G n w b8):=Ac ⟨cc,⟨ca,_,f,k⟩,bx.out.trans g⟩)
   all_goals(obtain⟨bl,b2⟩:=ε D.2)
   all_goals(rw[<-b2]at l⊢)
   all_goals(clear f k g b1 bW bx bt bs ah t u1 a5 b2)
   all_goals(by_cases al:bl=0)
   all_goals first
    |(have C:Hid (DZ j a=(⟨D.1,j.made++[(e:Int)]⟩,Az e,0)):=Ac (by rw[l.out,kX al])
      subst al;clear l;go_wp2;go_ret2;refine⟨by rw[C.out];show _=Ending.returned (iJ #[gz iV ((Az e).toNat:Int),gz iU 0]);rw[ch.out];rfl,?_⟩;rw[C.out];exact M)
    |(have C:Hid (DZ j a=(⟨D.1,j.made++[(e:Int)]⟩,0,bl)):=Ac (by rw[l.out,lg al])
      have t3:(bl !=0)=true:=by rw[bne_iff_ne];exact al
      clear l al;go_wp2;go_ret2;refine⟨by rw[C.out];rfl,?_⟩;rw[C.out];exact M)
end
def Nc(a b:nG):Int:=if Op.bytesLess a.toList b.toList=true then-1 else if(a.toList==b.toList)=true then 0 else 1
def Av5(a:nG)(w:jT):Calls prog 203 #[a] w λb w'=>b=iO jS/\w=w':=by
 go_in;go_wp2;go_ret;exact⟨by simp,rfl⟩
def Av6(a b:nG)(w:jT):Calls prog 165 #[a,b] w λc w'=>c=iO (gz iU (Nc a b))/\w=w':=by
 obtain⟨d,g⟩:∃q,Op.bytesLess a.toList b.toList=q:=⟨_,rfl⟩;obtain⟨e,i⟩:∃q,(a.toList==b.toList)=q:=⟨_,rfl⟩;have f:Hid (Nc a b=if d=true then-1 else if e=true then 0 else 1):=Ac (by unfold Nc;rw[g,i]);cases d<;>cases e<;>(
  go_in;go_wp2_with(go_at_call 203;refine(Av5 _ _).mono ?_;rintro c w'⟨rfl,rfl⟩);go_ret;exact⟨by rw[f.out];rfl,rfl⟩)
def dL(x:Wr)(key:nG)(w:jT):Calls prog 110 #[OY x,key] w λg w'=>g=iO (gz iU (Nc x.key key))/\η w w':=by
 obtain⟨f,a,o,b⟩:=E5 w 143 [x.key,x.text,x.gone];obtain⟨d,c,e⟩:=l9 (Av6 x.key key f) o a;unfold OY;clear b o a;go_in;go_wp2_with fail;rw[<-e.out];go_wp2_with(refine d.out.ro ?_);go_ret;exact⟨rfl,c⟩
def pY{w:jT}{A:Option Addr}{s:List Wr}(h:Rd w A (s.length*3) (GK s))(k:Nat)(e:k<s.length):∃b a,A=jm (Δ b a)/\b<w/\w.cell? (Δ b (a+k*3))=jm (ig s[k].key)/\
 w.cell? (Δ b (a+k*3+1))=jm (ig s[k].text)/\w.cell? (Δ b (a+k*3+2))=jm (iw s[k].gone):=by
 obtain⟨b,a,rfl,o,c⟩:=h.2 O;have d:=flat_get wrC 3 (λ_=>rfl) s k;refine⟨b,a,rfl,o,?_,?_,?_⟩
 ·have:=c (k*3) O;rw[this];exact d 0 e U
 ·have:=c (k*3+1) O;rw[JD,this];exact d 1 e U
 ·have:=c (k*3+2) O;rw[JD,this];exact d 2 e U
def Ar8{w:jT}{A:Option Addr}{c:Nat}{s:List Wr}(key:nG)(aa:s.length<=100000)(L:Rd w A (s.length*3) (GK s))(M:QY s):
 Calls prog 156 #[fM A s.length c,key,.func (.func 110) #[] #[]] w λn w'=>n=iO (iJ #[gz iU (Hf s key:Nat),iw (ny s key)])/\η w w':=by
 have R:=Ac L;have J:=Ac M;clear L M;go_in;go_wp2_with fail
 go_loopg [9,10]s.length(λT Y Z wr=>∃d a:Nat,Y=gz iU d/\Z=gz iU a/\d<=a/\a<=s.length/\a-d<=T/\η w wr/\(∀t(h:t<s.length),t<d->Gf s[t] key=true)/\(∀t(h:t<s.length),a<=t->Gf s[t] key=jS))
 case atStart=>exact⟨0,s.length,rfl,rfl,Bd _,Ae _,O,mZ,λt _ F=>absurd F (Wn _),λt z B=>O⟩
 case round=>
  obtain⟨d,a,rfl,rfl,ac,W,ab,o,z,B⟩:=hrel;obtain⟨v,y,l,P⟩:=lL z B o (Rd.below R o);clear z B o;have m:=Ac (λ(x:Wr)S=>dL x key S);unfold OY at m;by_cases ad:d<a
  ·have D:(d+a)/2<s.length:=O;obtain⟨b,X,rfl,V,G,H,I⟩:=pY P ((d+a)/2) D;obtain⟨x,g⟩:=ε (s[(d+a)/2]);rw[<-g]at G H I;have K:=Ac g;have f:Gf x key=Op.bytesLess x.key.toList key.toList:=rfl;cases e:Op.bytesLess x.key.toList key.toList with
   |true=>
    rw[e,K.out]at f;have C:decide (Nc x.key key<0)=true:=by rw[show Nc x.key key= -1 by unfold Nc;rw[kX e]];decide
    have u:=Ac f;clear g f e;go_wp2_with(go_at_call 110;refine(m x _).mono ?_;rintro n w'⟨rfl,k⟩);go_roundg(a-((d+a)/2+1))
    case measure=>omega
    case rel=>
     exact⟨(d+a)/2+1,a,by rw[show((d:Int)+(a:Int))/2+1=(((d+a)/2+1:Nat):Int)by omega],rfl,O,W,Ae _,τ l.out k,J.left D u,y⟩
   |false=>
    rw[e,K.out]at f;have C:decide (Nc x.key key<0)=false:=by
     unfold Nc;rw[e,lg U];split<;>decide
    have u:=Ac f;clear g f e;go_wp2_with(go_at_call 110;refine(m x _).mono ?_;rintro n w'⟨rfl,k⟩);go_roundg((d+a)/2-d)
    case measure=>omega
    case rel=>
     exact⟨d,(d+a)/2,rfl,by rw[show((d:Int)+(a:Int))/2=(((d+a)/2:Nat):Int)by omega],O,O,Ae _,τ l.out k,v,J.right D u⟩
  ·have:a=d:=O;subst this;by_cases p:a<s.length
   ·obtain⟨b,X,rfl,V,G,H,I⟩:=pY P a p;obtain⟨j,i⟩:=iY p (y a p (Ae _)) v.out;have e:Op.bytesLess s[a].key.toList key.toList=false:=y a p (Ae _);obtain⟨x,g⟩:=ε (s[a]);rw[<-g]at G H I i e;have C:(Nc x.key key==0)=ny s key:=by
     rw[i];unfold Nc;rw[e,lg U];cases(x.key.toList==key.toList)<;>rfl
    have q:=Ac j;clear g j i e;obtain⟨N,E⟩:∃N,ny s key=N:=⟨_,rfl⟩;rw[E]at C;have r:=Ac E;clear E;go_wp2_with(go_at_call 110;refine(m x _).mono ?_;rintro n w'⟨rfl,k⟩);go_ret2;exact⟨by rw[q.out,r.out];rfl,τ l.out k⟩
   ·have f:a=s.length:=O;obtain⟨j,i⟩:=Anc (s:=s) (key:=key) (λt F=>v t F O);obtain⟨q,r,Q⟩:=l9 j i f;clear f j i;go_wp2;go_ret2;exact⟨by rw[q.out,r.out,Q.out];rfl,l⟩
def Yt{w:jT}{A:Option Addr}{c:Nat}{s:List Wr}(key:nG)(g:s.length<=100000)(b:Rd w A (s.length*3) (GK s))(d:QY s):
 Calls prog 103 #[fM A s.length c,key] w λa w'=>a=iO (iJ #[gz iU (Hf s key:Nat),iw (ny s key)])/\η w w':=by
 have e:=Ac (Ar8 (c:=c) key g b d);clear b d;go_in;go_wp2_with(refine e.out.mono ?_;rintro a i⟨rfl,f⟩);go_ret2;exact⟨rfl,f⟩
structure Sp where
 what:Nat
 id:Nat
 key:nG
 text:nG
def Zk(c k:Nat):List nC:=(Ea k).map λa=>UInt8.ofNat (97+c/4^(a+1)%4)
def keyS(c:Nat):nG:=⟨(Zk c (c%4)).toArray⟩
def Yu(t k:Nat):List nC:=List.replicate k (UInt8.ofNat (115+t/8%8))
def textS(t:Nat):nG:=⟨(Yu t (t%8)).toArray⟩
def stepS(x y a:nC):Sp:=⟨x.toNat%9,x.toNat/9%8,keyS y.toNat,textS a.toNat⟩
def Ad3(b:List nC)(k:Nat):Sp:=stepS (b.getD (3*k) 0) (b.getD (3*k+1) 0) (b.getD (3*k+2) 0)
def Qw(b:List nC)(k:Nat):List Sp:=(Ea k).map (Ad3 b)
def uD(b:List nC):List Sp:=Qw b (min (b.length/3) 400)
def Aja(c k:Nat):Zk c (k+1)=Zk c k++[UInt8.ofNat (97+c/4^(k+1)%4)]:=by simp[Zk,Qe]
def Ad4(t k:Nat):Yu t (k+1)=Yu t k++[UInt8.ofNat (115+t/8%8)]:=by simp[Yu,List.replicate_succ']
def Anq(c k:Nat):(Zk c k).length=k:=by simp[Zk]
def Ajb(t k:Nat):(Yu t k).length=k:=by simp[Yu]
def Ad5(b:List nC)(k:Nat):Qw b (k+1)=Qw b k++[Ad3 b k]:=by simp[Qw,Qe]
def Ajc(b:List nC)(k:Nat):(Qw b k).length=k:=by simp[Qw]
def Tryz.J8:IK prog 22 5 (gz .u8 0) 1 1:=⟨underlying22,by kernel_rfl,rfl⟩
def u8w(n:Nat)(h:n<256):IntKind.u8.wrap (n:Int)=(n:Int):=by
 simp only[IntKind.wrap,IntKind.bits,IntKind.signed,Bool.false_and,Bool.false_eq_true,if_false,show(2:Int)^8=256 from rfl];omega
def Av7(c:nC)(w:jT):Calls prog 12 #[c] w λH w'=>H=iO (ig (keyS c.toNat))/\η w w':=by
 have z:=c.toNat_lt;unfold keyS;generalize c.toNat=n at*;have W:n<256:=z;have t0:IntKind.u8.wrap ((n:Int).tmod 4)=((n%4:Nat):Int):=by rw[Ej O,show(n:Int)%4=((n%4:Nat):Int)by omega];exact u8w _ O
 have M:(n:Int).tmod 4=((n%4:Nat):Int):=by rw[Ej O];omega
 obtain⟨r,E⟩:=ε (n%4);have V:r<4:=O;rw[<-E]at t0 M⊢;clear E z;go_in;go_wp2_with fail;go_loopw [3,4,8](λs g C wr=>∃a:Nat,a<=r/\C=gz .u8 (a:Nat)/\g=gz .u8 ((n/4^a:Nat):Int)/\wr.ownsRow w 5 1 s a ((Zk n a).map bv)/\η w wr)(λ_ _ C _=>r-(intOf C).toNat)
 case atStart=>exact⟨0,Bd _,rfl,by simp,Ce _ _ _ _,mZ⟩
 case round=>
  obtain⟨a,T,rfl,rfl,F,o⟩:=hrel;have q:=Ac F;have f:=Ac o;clear F o;by_cases J:a<r
  ·obtain⟨L,Z⟩:=xk J;have Y:IntKind.u8.wrap ((a:Int)+1)=(a:Int)+1:=by rw[show(a:Int)+1=((a+1:Nat):Int)by omega];exact u8w _ O
   have p:=Ac (Aja n a);have K:n/4^a<=n:=Nat.div_le_self _ _;have A:n/4^(a+1)=n/4^a/4:=by rw[Nat.pow_succ,Nat.div_div_eq_div_mul]
   rw[A]at p;have t:=Ac A;generalize n/4^a=x at*;have N:(x:Int).tdiv 4=((x/4:Nat):Int):=by rw[Lr O];omega
   have P:IntKind.u8.wrap ((x/4:Nat):Int)=((x/4:Nat):Int):=u8w _ O;have aa:x/4<256:=O;generalize x/4=u at*;have Q:(u:Int).tmod 4=((u%4:Nat):Int):=by rw[Ej O];omega
   have X:u%4<4:=Nat.mod_lt _ U;generalize u%4=g at*;have R:IntKind.u8.wrap (g:Int)=(g:Int):=u8w _ O;have B:g=0\/g=1\/g=2\/g=3:=O;clear A K;rcases B with rfl|rfl|rfl|rfl
   ·go_wp2_with(at_builtin;refine BU rfl (.tmp 12) (.tmp 16) 22 rfl Tryz.J8 wr w u3 a ((Zk n a).map bv) [gz .u8 97] rfl (by exact q) rfl _ 1 rfl rfl rfl U (by intro s e;simp at e;subst e;rfl) O U (by exact f.size) ?_;intro y v D d b m j);have k:=Ac d;have i:=Ac (f.trans b);clear d b m j;go_wp2;exact⟨⟨a+1,O,by go_num,by rw[t.out],by rw[p.out,CJ];exact k,i⟩,mz⟩
   ·go_wp2_with(at_builtin;refine BU rfl (.tmp 12) (.tmp 16) 22 rfl Tryz.J8 wr w u3 a ((Zk n a).map bv) [gz .u8 98] rfl (by exact q) rfl _ 1 rfl rfl rfl U (by intro s e;simp at e;subst e;rfl) O U (by exact f.size) ?_;intro y v D d b m j);have k:=Ac d;have i:=Ac (f.trans b);clear d b m j;go_wp2;exact⟨⟨a+1,O,by go_num,by rw[t.out],by rw[p.out,CJ];exact k,i⟩,mz⟩
   ·go_wp2_with(at_builtin;refine BU rfl (.tmp 12) (.tmp 16) 22 rfl Tryz.J8 wr w u3 a ((Zk n a).map bv) [gz .u8 99] rfl (by exact q) rfl _ 1 rfl rfl rfl U (by intro s e;simp at e;subst e;rfl) O U (by exact f.size) ?_;intro y v D d b m j);have k:=Ac d;have i:=Ac (f.trans b);clear d b m j;go_wp2;exact⟨⟨a+1,O,by go_num,by rw[t.out],by rw[p.out,CJ];exact k,i⟩,mz⟩
   ·go_wp2_with(at_builtin;refine BU rfl (.tmp 12) (.tmp 16) 22 rfl Tryz.J8 wr w u3 a ((Zk n a).map bv) [gz .u8 100] rfl (by exact q) rfl _ 1 rfl rfl rfl U (by intro s e;simp at e;subst e;rfl) O U (by exact f.size) ?_;intro y v D d b m j);have k:=Ac d;have i:=Ac (f.trans b);clear d b m j;go_wp2;exact⟨⟨a+1,O,by go_num,by rw[t.out],by rw[p.out,CJ];exact k,i⟩,mz⟩
  ·have I:a=r:=O;subst I;have L:=wO (Abz a);obtain⟨G,c,rfl,z,B⟩:=CY q;have S:=Af5 (A:=G) (n:=a) (l:=Zk n a) B c;go_wp2;go_ret;exact⟨rfl,f⟩
def Ar9(c:nC)(w:jT):Calls prog 13 #[c] w λG w'=>G=iO (ig (textS c.toNat))/\η w w':=by
 have A:=c.toNat_lt;unfold textS;generalize c.toNat=n at*;have t0:IntKind.u8.wrap ((n:Int).tmod 8)=((n%8:Nat):Int):=by rw[Ej O,show(n:Int)%8=((n%8:Nat):Int)by omega];exact u8w _ O
 have M:(n:Int).tmod 8=((n%8:Nat):Int):=by rw[Ej O];omega
 obtain⟨v,B⟩:=ε (n%8);have Z:v<8:=O;rw[<-B]at t0 M⊢;have F:=Ac (λa=>Ad4 n a);have E:Hid (Yu n 0=[]):=Ac rfl;have N:(n:Int).tdiv 8=((n/8:Nat):Int):=by rw[Lr O];omega
 have P:IntKind.u8.wrap ((n/8:Nat):Int)=((n/8:Nat):Int):=u8w _ O;have Y:n/8<256:=O;clear B A;generalize H:Yu n=L at*;clear H;generalize n/8=x at*;have Q:(x:Int).tmod 8=((x%8:Nat):Int):=by rw[Ej O];omega
 have V:x%8<8:=Nat.mod_lt _ U;generalize x%8=m at*;have R:IntKind.u8.wrap (m:Int)=(m:Int):=u8w _ O;have y:m=0\/m=1\/m=2\/m=3\/m=4\/m=5\/m=6\/m=7:=O;go_in;go_wp2_with fail;go_loopw [3,6](λq z wr=>∃a:Nat,a<=v/\z=gz .u8 (a:Nat)/\wr.ownsRow w 5 1 q a ((L a).map bv)/\η w wr)(λ_ z _=>v-(intOf z).toNat)
 case atStart=>exact⟨0,Bd _,rfl,by rw[E.out];exact Ce _ _ _ _,mZ⟩
 case round=>
  obtain⟨a,T,rfl,C,o⟩:=hrel;have p:=Ac C;have f:=Ac o;clear C o;by_cases J:a<v
  ·obtain⟨K,X⟩:=xk J;have W:IntKind.u8.wrap ((a:Int)+1)=(a:Int)+1:=by rw[show(a:Int)+1=((a+1:Nat):Int)by omega];exact u8w _ O
   have r:=Ac (F a);rcases y with rfl|rfl|rfl|rfl|rfl|rfl|rfl|rfl
   ·go_wp2_with(at_builtin;refine BU rfl (.tmp 8) (.tmp 13) 22 rfl Tryz.J8 wr w u3 a ((L a).map bv) [gz .u8 115] rfl (by exact p) rfl _ 1 rfl rfl rfl U (by intro q e;simp at e;subst e;rfl) O U (by exact f.size) ?_;intro t s u d b k i);have j:=Ac d;have g:=Ac (f.trans b);clear d b k i;go_wp2;exact⟨⟨a+1,O,by go_num,by rw[r.out,CJ];exact j,g⟩,mz⟩
   ·go_wp2_with(at_builtin;refine BU rfl (.tmp 8) (.tmp 13) 22 rfl Tryz.J8 wr w u3 a ((L a).map bv) [gz .u8 116] rfl (by exact p) rfl _ 1 rfl rfl rfl U (by intro q e;simp at e;subst e;rfl) O U (by exact f.size) ?_;intro t s u d b k i);have j:=Ac d;have g:=Ac (f.trans b);clear d b k i;go_wp2;exact⟨⟨a+1,O,by go_num,by rw[r.out,CJ];exact j,g⟩,mz⟩
   ·go_wp2_with(at_builtin;refine BU rfl (.tmp 8) (.tmp 13) 22 rfl Tryz.J8 wr w u3 a ((L a).map bv) [gz .u8 117] rfl (by exact p) rfl _ 1 rfl rfl rfl U (by intro q e;simp at e;subst e;rfl) O U (by exact f.size) ?_;intro t s u d b k i);have j:=Ac d;have g:=Ac (f.trans b);clear d b k i;go_wp2;exact⟨⟨a+1,O,by go_num,by rw[r.out,CJ];exact j,g⟩,mz⟩
   ·go_wp2_with(at_builtin;refine BU rfl (.tmp 8) (.tmp 13) 22 rfl Tryz.J8 wr w u3 a ((L a).map bv) [gz .u8 118] rfl (by exact p) rfl _ 1 rfl rfl rfl U (by intro q e;simp at e;subst e;rfl) O U (by exact f.size) ?_;intro t s u d b k i);have j:=Ac d;have g:=Ac (f.trans b);clear d b k i;go_wp2;exact⟨⟨a+1,O,by go_num,by rw[r.out,CJ];exact j,g⟩,mz⟩
   ·go_wp2_with(at_builtin;refine BU rfl (.tmp 8) (.tmp 13) 22 rfl Tryz.J8 wr w u3 a ((L a).map bv) [gz .u8 119] rfl (by exact p) rfl _ 1 rfl rfl rfl U (by intro q e;simp at e;subst e;rfl) O U (by exact f.size) ?_;intro t s u d b k i);have j:=Ac d;have g:=Ac (f.trans b);clear d b k i;go_wp2;exact⟨⟨a+1,O,by go_num,by rw[r.out,CJ];exact j,g⟩,mz⟩
   ·go_wp2_with(at_builtin;refine BU rfl (.tmp 8) (.tmp 13) 22 rfl Tryz.J8 wr w u3 a ((L a).map bv) [gz .u8 120] rfl (by exact p) rfl _ 1 rfl rfl rfl U (by intro q e;simp at e;subst e;rfl) O U (by exact f.size) ?_;intro t s u d b k i);have j:=Ac d;have g:=Ac (f.trans b);clear d b k i;go_wp2;exact⟨⟨a+1,O,by go_num,by rw[r.out,CJ];exact j,g⟩,mz⟩
   ·go_wp2_with(at_builtin;refine BU rfl (.tmp 8) (.tmp 13) 22 rfl Tryz.J8 wr w u3 a ((L a).map bv) [gz .u8 121] rfl (by exact p) rfl _ 1 rfl rfl rfl U (by intro q e;simp at e;subst e;rfl) O U (by exact f.size) ?_;intro t s u d b k i);have j:=Ac d;have g:=Ac (f.trans b);clear d b k i;go_wp2;exact⟨⟨a+1,O,by go_num,by rw[r.out,CJ];exact j,g⟩,mz⟩
   ·go_wp2_with(at_builtin;refine BU rfl (.tmp 8) (.tmp 13) 22 rfl Tryz.J8 wr w u3 a ((L a).map bv) [gz .u8 122] rfl (by exact p) rfl _ 1 rfl rfl rfl U (by intro q e;simp at e;subst e;rfl) O U (by exact f.size) ?_;intro t s u d b k i);have j:=Ac d;have g:=Ac (f.trans b);clear d b k i;go_wp2;exact⟨⟨a+1,O,by go_num,by rw[r.out,CJ];exact j,g⟩,mz⟩
  ·have I:a=v:=O;subst I;have K:=wO (Abz a);obtain⟨D,c,rfl,A,y⟩:=CY p;have S:=Af5 (A:=D) (n:=a) (l:=L a) y c;go_wp2;go_ret;exact⟨rfl,f⟩
def spC(x:Sp):List Value:=[x.what,x.id,x.key,x.text]
def Pm(l:List Sp):List Value:=(l.map spC).flatten
def zh(l:List Sp)(a:Sp):Pm (l++[a])=Pm l++spC a:=by simp[Pm]
def Tryz.Asa:IK prog 25 46 (.agg #[gz iU 0,gz iU 0,ig ⟨#[]⟩,ig ⟨#[]⟩]) 4 48:=⟨underlying25,by kernel_rfl,rfl⟩
def uF(w:jT)(e:TypeId)(xs:List Value)(k:Nat)(a:xs.length=k):Rd (w.alloc (ji xs.toArray e)) (jm (Φ w)) (1*k) xs:=
 ⟨by rw[Nat.one_mul];exact a,λ_=>⟨w,0,rfl,by simp,λj _=>by rw[Nat.zero_add];exact(show Cm (w.alloc (ji xs.toArray e)) w e xs from heap_alloc_new _ _).cell j⟩⟩
def Ajd(l:List nC)(A:Option Addr)(c:Nat)(w:jT)(Y:l.length<=maxLen)(ah:l.length<=c)(h:Bs w A l.length l):
 Calls prog 5 #[fM A l.length c] w λg w'=>∃q,g=iO q/\w'.ownsRow w 46 4 q (uD l).length (Pm (uD l))/\η w w':=by
 unfold maxLen at Y;have ab:=Ac h;by_cases V:l.length<3
 ·have t1:=dF ((3:Int)<=(l.length:Int));have v:Hid (uD l=[]):=Ac (by unfold uD;rw[show l.length/3=0 by omega];rfl);generalize l.length=n at*;clear h V;go_in;go_wp2_with fail;go_loopw [0,3](λp q wr=>p=fM A n c/\q=fM jw 0 0/\wr=w)(λ_ _ _=>0)
  case atStart=>exact⟨rfl,rfl,rfl⟩
  case round=>
   obtain⟨rfl,rfl,rfl⟩:=hrel;go_wp2;go_ret;exact⟨_,rfl,by rw[v.out];exact Ce _ _ _ _,mZ⟩
 ·obtain⟨_,b,j,rfl,o,_⟩:=h.at (k:=0) O;obtain⟨n,J⟩:=ε l.length;rw[<-J]at Y ah V⊢;have Q:=Ac J;clear h J o;go_in;go_wp2_with fail;go_loopw [0,3](λp q wr=>∃a f m N:Nat,n=3*a+f/\c=3*a+m/\a<=400/\p=fM (jm (Δ b N)) f m/\(0<m->N=j+3*a)/\wr.ownsRow w 46 4 q a (Pm (Qw l a))/\η w wr)(λp _ _=>match p with| .slice _ f _=>f|_=>0)
  case atStart=>exact⟨0,n,c,j,O,O,O,rfl,λ_=>O,Ce _ _ _ _,mZ⟩
  case round=>
   obtain⟨a,f,m,N,a2,a1,a0,rfl,Z,K,o⟩:=hrel;obtain⟨C,D,rfl,aR,_⟩:=C9 K;have R:=Ac K;have d:=Ac o;clear K o;by_cases H:3<=f/\a<400
   ·obtain⟨an,az⟩:=H;obtain rfl:=Z O;clear Z;have t1:=dT ((3:Int)<=(f:Int));have t2:=dT ((a:Int)<400);have k:∀t,t<3->∀i,η w i->i.cell? (Δ b (j+3*a+t))=jm (gz .u8 ((l.getD (3*a+t) 0).toNat:Int)):=λt aW i E=>by
     obtain⟨am,aD,a4,g,_,al⟩:=(ab.below E).at (k:=3*a+t) (Ω Q.out);injection g with g
     injection g with S T
     subst S T;rw[JD,al,List.getD_eq_getElem?_getD,Ag am];rfl
    have au:=k 0 U wr d;have av:=k 1 U wr d;have aw:=k 2 U wr d;have ad:Hid (Pm (Qw l (a+1))=Pm (Qw l a)++spC (stepS (l.getD (3*a) 0) (l.getD (3*a+1) 0) (l.getD (3*a+2) 0))):=Ac (by rw[Ad5,zh];rfl);rw[Nat.add_zero]at au;have r:=Ac (k 1 U);have s:=Ac (k 2 U);generalize l.getD (3*a) 0=x at*;generalize l.getD (3*a+1) 0=z at*;generalize l.getD (3*a+2) 0=B at*;have a3:=x.toNat_lt;have S:IntKind.i64.wrap (x.toNat:Int)=(x.toNat:Int):=IntWalk.i64_in _ O;have T:(x.toNat:Int).tmod 9=((x.toNat%9:Nat):Int):=by rw[Ej O];omega
    have aE:(x.toNat:Int).tdiv 9=((x.toNat/9:Nat):Int):=by rw[Lr O];omega
    have aG:((x.toNat/9:Nat):Int).tmod 8=((x.toNat/9%8:Nat):Int):=by rw[Ej O];omega
    have aI:IntKind.i64.wrap ((x.toNat%9:Nat):Int)=((x.toNat%9:Nat):Int):=IntWalk.i64_in _ O;have aL:IntKind.i64.wrap ((x.toNat/9:Nat):Int)=((x.toNat/9:Nat):Int):=IntWalk.i64_in _ O;have aM:IntKind.i64.wrap ((x.toNat/9%8:Nat):Int)=((x.toNat/9%8:Nat):Int):=IntWalk.i64_in _ O;have ao:Hid (∀i,η wr i->i.ownsRow w 46 4 (fM C a D) a (Pm (Qw l a))):=Ac (λi E=>Eu R E);clear k;go_wp2_with fail;go_region_held_law(λw'=>w'.cell? (Δ b (j+3*a+1))=jm (gz .u8 (z.toNat:Int))/\w'.cell? (Δ b (j+3*a+2))=jm (gz .u8 (B.toNat:Int)))
     (first|exact⟨av,aw⟩|exact⟨r _ (τ d.out I),s _ (τ d.out I)⟩|exact⟨r _ (τ d.out M),s _ (τ d.out M)⟩|exact⟨r _ (τ d.out e),s _ (τ d.out e)⟩|exact⟨r _ (τ d.out (e.alloc e.size _)),s _ (τ d.out (e.alloc e.size _))⟩|exact⟨r _ y,s _ y⟩)
     (first
     |(go_at_call 12;refine(Av7 z _).mono ?_;first|(have L:=M;rintro g u⟨rfl,F⟩;have e:η wr u:=τ L F)|(rintro g ar⟨rfl,F⟩;have I:η wr ar:=(mX wr).trans F))
     |(go_at_call 13;refine(Ar9 B _).mono ?_;first|(have L:=I;rintro g u⟨rfl,G⟩;have e:η wr u:=τ L G)|(rintro g wt⟨rfl,G⟩;have M:η wr wt:=(mX wr).trans G))
     |(rw[kX (by rfl)];refine xZ (.tmp 17) (.tmp 32) 25 rfl Tryz.Asa U w (.slice C a D) a (Pm (Qw l a)) rfl (ao _ (e.alloc e.size _)) (jm (Φ u)) 1 1 (spC (stepS x z B)) rfl (uF u 46 (spC (stepS x z B)) 4 rfl) (by intro p aa;simp[spC]at aa;rcases aa with rfl|rfl|rfl|rfl<;>rfl) O U (AZ d.size (e.alloc e.size _).size) ?_;intro a5 aq X W ae;have y:η w aq:=(τ d.out (e.alloc e.size _)).trans W))
    all_goals(
     have ac:=Ac X;have ap:=Ac y;clear X W ae y)
    all_goals(go_wp2)
    all_goals(go_roundw)
    all_goals first
     |(case measure=>simp;omega)
     |(case rel=>exact⟨a+1,f-3,m-3,if m=3 then j+3*a else j+3*a+3,O,O,O,by split<;>rfl,λh=>by rw[lg O];omega,by rw[ad.out];exact ac,ap⟩)
   ·have v:Hid (uD l=Qw l a):=Ac (by unfold uD;rw[<-Q.out,show min (n/3) 400=a by omega]);have P:Hid (wr.ownsRow w 46 4 (fM C a D) (Qw l a).length (Pm (Qw l a))):=Ac (by rw[Ajc];exact R);by_cases an:3<=f
    ·have t1:=dT ((3:Int)<=(f:Int));have t2:=dF ((a:Int)<400);clear H;go_wp2;go_ret;exact⟨_,rfl,by rw[v.out];exact P,d⟩
    ·have t1:=dF ((3:Int)<=(f:Int));clear H;go_wp2;go_ret;exact⟨_,rfl,by rw[v.out];exact P,d⟩
def dM{a:Type}(f:a->a->Bool):List a->List a->Bool
 |[],[]=>true
 |x::c,d::b=>f x d&&dM f c b
 |_,_=>jS
def Agv{c:Type}{f:c->c->Bool}:∀{a b:List c},dM f a b=true->a.length=b.length
 |[],[],_=>rfl
 |_::a,_::b,h=>by
  rw[dM,Bool.and_eq_true]at h;rw[Bg,Bg,Agv h.2]
 |[],_::_,h=>by cases h
 |_::_,[],h=>by cases h
def Asb{c:Type}{f:c->c->Bool}{a b:List c}(h:a.length≠b.length):dM f a b=false:=by
 cases d:dM f a b
 ·rfl
 ·exact absurd (Agv d) h
def zi{b:Type}{f:b->b->Bool}(c:∀x,f x x=true):∀a:List b,dM f a a=true
 |[]=>rfl
 |x::a=>by rw[dM,c,zi c a];rfl
def zk{d:Type}{f:d->d->Bool}(e:∀x c,f x c=f c x):∀a b:List d,dM f a b=dM f b a
 |[],[]=>rfl
 |x::a,c::b=>by rw[dM,dM,e,zk e a b]
 |[],_::_=>rfl
 |_::_,[]=>rfl
def Anr{c:Type}{f:c->c->Bool}{a b:List c}{k:Nat}(d:k<a.length)(o:k<b.length):dM f (a.drop k) (b.drop k)=(f a[k] b[k]&&dM f (a.drop (k+1)) (b.drop (k+1))):=by
 rw[BX d,BX o,dM]
def Asd{c:Type}{f:c->c->Bool}{a b:List c}{k:Nat}(d:a.length<=k)(o:b.length<=k):dM f (a.drop k) (b.drop k)=true:=by
 rw[D9 d,D9 o];rfl
structure Pr where
 key:nG
 text:nG
def Ll(a b:Pr):Bool:=(a.key.toList==b.key.toList)&&(a.text.toList==b.text.toList)
def zl(a:Pr):Ll a a=true:=by simp[Ll]
def Zl(a b:List nC):(a==b)=(b==a):=by rw[Bool.eq_iff_iff,beq_iff_eq,beq_iff_eq];exact eq_comm
def zn(a b:Pr):Ll a b=Ll b a:=by unfold Ll;rw[Zl a.key.toList,Zl a.text.toList]
structure An where
 text:nG
 pairs:List Pr
 n:Int
 done:Bool
 e:Int
def Hy(a b:An):Bool:=(a.text.toList==b.text.toList)&&((a.n==b.n)&&((a.done==b.done)&&((a.e==b.e)&&dM Ll a.pairs b.pairs)))
def MO(a:An):Hy a a=true:=by simp[Hy,zi zl]
def Aul(a b:An):Hy a b=Hy b a:=by
 unfold Hy;rw[Zl a.text.toList,zk zn a.pairs,show(a.n==b.n)=(b.n==a.n)by rw[Bool.eq_iff_iff,beq_iff_eq,beq_iff_eq];exact eq_comm,show(a.e==b.e)=(b.e==a.e)by rw[Bool.eq_iff_iff,beq_iff_eq,beq_iff_eq];exact eq_comm,show(a.done==b.done)=(b.done==a.done)by cases a.done<;>cases b.done<;>rfl]
def Ant(a b:Sp):Bool:=(((a.what:Int)==(b.what:Int))&&((a.id:Int)==(b.id:Int)))&&((a.key.toList==b.key.toList)&&(a.text.toList==b.text.toList))
def Aum(a:Sp):Ant a a=true:=by simp[Ant]
def prC(p:Pr):List Value:=[p.key,p.text]
def Ht(l:List Pr):List Value:=(l.map prC).flatten
def Anu(l:List Pr)(a:Pr):Ht (l++[a])=Ht l++prC a:=by simp[Ht]
def YO(w:jT)(A:Option Addr)(l:List Pr):Prop:=Rd w A (l.length*2) (Ht l)
def YO.below{w w':jT}{A:Option Addr}{l:List Pr}(h:YO w A l)(k:η w w'):YO w' A l:=Rd.below h k
def YO.at{w:jT}{A:Option Addr}{l:List Pr}(h:YO w A l)(k:Nat)(i:k<l.length):∃b c,A=jm (Δ b c)/\b<w/\w.cell? (Δ b (c+k*2))=jm (ig l[k].key)/\w.cell? (Δ b (c+k*2+1))=jm (ig l[k].text):=by
 obtain⟨b,c,e,o,f⟩:=h.2 O;have d:∀a,a<2->w.cell? (Δ b (c+k*2+a))=(prC l[k])[a]?:=λa g=>by
  rw[JD,f (k*2+a) O];exact flat_get prC 2 (λ_=>rfl) l k a i g
 exact⟨b,c,e,o,d 0 U,d 1 U⟩
def YO.nil(w:jT):YO w jw []:=⟨rfl,λh=>absurd h Θ⟩
def Tryz.Av8(a b c d:nG)(w:jT):(Op.equalIn 10000 159 (.agg #[a,b]) (.agg #[c,d])).run prog w=.ok (a.toList==c.toList&&b.toList==d.toList) w:=by
 have e:prog.underlying 159=jm (.struct (prog.fieldsOf 159)):=by kernel_rfl
 rw[show(10000:Nat)=9999+1 from rfl]
 first
  |rw[run_equalIn_agg w 9999 159 _ _ e Γ]
  |rw[run_equalIn_agg w 9999 159 _ _ e (λw=>by kernel_rfl)]
 have u9:=underlying9;simp only[Program.fieldsOf,underlying159];go_simp;by_cases f:a.toList=c.toList<;>by_cases g:b.toList=d.toList<;>simp[f,g]
def Ase(a b:List Pr)(A B:Option Addr)(c d:Nat)(w:jT)(H:a.length<=1000000)(t:YO w A a)(o:YO w B b):Calls prog 116 #[fM A a.length c,fM B b.length d] w λE w'=>E=iO (iw (dM Ll a b))/\Dr w w':=by
 have y:=Ac t;have z:=Ac o;clear t o;by_cases l:a.length=b.length
 ·obtain⟨n,m⟩:=ε b.length;have j:=Ac m;have s:=Ac l;rw[l,<-m];have N:n<=1000000:=O;clear m H l;go_in;go_wp2_with fail;go_loopw [13](λp wr=>∃e:Nat,e<=n/\p=gz iU (e:Nat)/\dM Ll a b=dM Ll (a.drop e) (b.drop e)/\Dr w wr)(λp _=>n-(intOf p).toNat)
  case atStart=>exact⟨0,Bd _,rfl,rfl,Dr.refl _⟩
  case round=>
   obtain⟨e,L,rfl,x,u⟩:=hrel;have g:=Ac u;have k:=Ac x;clear u x;by_cases v:e<n
   ·have r:e<a.length:=Ψ j.out s.out;have q:e<b.length:=Ω j.out;obtain⟨J,U,rfl,_,W,X⟩:=(y.below (g.below _)).at e r;obtain⟨K,V,rfl,_,Y,Z⟩:=(z.below (g.below _)).at e q;have I:=XH v;have Q:=XI e O;have M:prog.eqGuardType prog.depth 159=false:=by kernel_rfl
    have P:=λD=>Tryz.Av8 a[e].key a[e].text b[e].key b[e].text D
    have i:=Ac (k.trans (Anr (f:=Ll) r q));rw[show Ll a[e] b[e]=((a[e].key.toList==b[e].key.toList)&&(a[e].text.toList==b[e].text.toList))from rfl]at i;generalize(a[e].key.toList==b[e].key.toList)=F at*;generalize(a[e].text.toList==b[e].text.toList)=G at*;clear k;cases F<;>cases G
    case true.true=>
     go_wp2_with fail;go_quiet(fail);go_wp2;exact⟨⟨e+1,O,by go_num,i,by first|exact g.trans (Dr.one _ _)|exact g⟩,mz⟩
    all_goals(go_wp2_with fail)
    all_goals(go_quiet(fail))
    all_goals(go_wp2)
    all_goals(go_ret)
    all_goals(exact⟨by rw[show dM Ll a b=jS from i.out];rfl,by first|exact g.trans (Dr.one _ _)|exact g⟩)
   ·obtain⟨I,R⟩:=wO v;have i:Hid (dM Ll a b=true):=Ac (k.trans (Asd (Ψ j.out s.out) (Ω j.out)));clear k;go_wp2;go_ret;exact⟨by rw[i.out];rfl,g⟩
 ·have t1:((a.length:Int)!=(b.length:Int))=true:=by simp;omega
  have C:Hid (dM Ll a b=jS):=Ac (Asb l);generalize a.length=S at*;generalize b.length=T at*;go_wp2;go_ret;exact⟨by rw[C.out];rfl,Dr.refl _⟩
def Gh:Ms->List Lk->Ms×Int
 |q,[]=>(q,0)
 |q,a::b=>if(DT q a.off).2=0 then Gh (DT q a.off).1 b else DT q a.off
def OI(q:Ms)(l:List Lk)(b:Nat):Ms×Int:=
 if b=l.length then(q,0)else
 match l[b-1]? with
 |some a=>if(KG q 3 (DD q.s.ws (a.off.toNat/8+2) 0)).2=0 then Gh (KG q 3 (DD q.s.ws (a.off.toNat/8+2) 0)).1 (l.drop b)else KG q 3 (DD q.s.ws (a.off.toNat/8+2) 0)
 |none=>(q,2)
section
variable{w w':jT}{d p L:Nat}{q:Ms}{F:Nat->Prop}
def Aje(h:LY w d p L q F){l:List Lk}{A:Option Addr}{c:Nat}(z:MB w F A (l.length*5) (nD l))(bj:l.length<=c)(a2:l.length<=100000)(y:∀b∈l,∃e:Nat,b.off=((8*e:Nat):Int)/\e+8<=8*L/\e<=10000)(a:Nat)(v:a<l.length):
 Calls prog 115 #[AB d,AB p,fM A l.length c,gz iU ((a:Int)+1)] w λj w'=>j=iO (gz iU (OI q l (a+1)).2)/\∃F',LY w' d p L (OI q l (a+1)).1 F'/\AQ F F' w w':=by
 have U:=Ac (Zh h);have t1:=dF ((a:Int)+1<1);have t3:=dF ((l.length:Int)<(a:Int)+1);by_cases x:a+1=l.length
 ·have t4:((a:Int)+1==(l.length:Int))=true:=beq_iff_eq.2 O;have j:OI q l (a+1)=(q,0):=by unfold OI;rw[kX x]
  have aI:=Ac h;rw[j];clear h z y j x;go_in;go_wp2_with(refine U.out.ro ?_);go_ret;exact⟨rfl,F,aI,AQ.refl _ _⟩
 ·have t4:((a:Int)+1==(l.length:Int))=false:=beq_eq_false_iff_ne.2 O;obtain⟨be,ac,rfl,bi,r,-⟩:=LkR.at z.1 a v;obtain⟨e,k,M,N⟩:=y _ (BO v);have bm:IntKind.i64.wrap ((a:Int)+1-1)=(a:Int):=by rw[show(a:Int)+1-1=(a:Int)by omega];exact IntWalk.i64_in _ O
  obtain⟨t,al⟩:∃t:Int,t=((8*e:Nat):Int):=⟨_,rfl⟩;obtain⟨u,H⟩:∃u:Int,u=((8*(e+2):Nat):Int):=⟨_,rfl⟩;have bo:IntKind.i64.wrap (t+16)=u:=by rw[show t+16=u by omega,H];exact IntWalk.i64_in _ O
  have ar:l[a].off.toNat/8+2=e+2:=by rw[k];simp;omega
  have g:Hid (OI q l (a+1)=if(KG q 3 (DD q.s.ws (e+2) 0)).2=0 then Gh (KG q 3 (DD q.s.ws (e+2) 0)).1 (l.drop (a+1))else KG q 3 (DD q.s.ws (e+2) 0)):=Ac (by
   unfold OI;rw[lg x,show a+1-1=a by omega,Ag v];simp only[ar])
  have n:=Ac (Sv h (e+2) 0 O);rw[show((0:ni).toNat:Int)=0 by rfl,<-H]at n;obtain⟨⟨aG,ad⟩,m⟩:∃E,KG q 3 (DD q.s.ws (e+2) 0)=E:=⟨_,rfl⟩;rw[m]at g n;simp only at g n;rw[k,<-al]at r;have aR:=Ac z;have t5:(a:Int)<(l.length:Int):=O;have aM:=Ac y;have bl:a+1<l.length:=O;have aL:=Ac a2;have bk:¬c=a+1:=O;clear h z y m k M N ar x al H;go_in;go_wp2_with(refine U.out.ro ?_);refine n.mono ?_;rintro j br⟨rfl,S,B,aq⟩;have X:=Ac B;have ab:=Ac aq;clear B aq n r;by_cases I:ad=0
  ·subst I;rw[kX rfl]at g;go_wp2_with fail;go_loopw [44](λP wr=>∃(b:Nat)(f:Ms)(F':Nat->Prop),b<=l.length-(a+1)/\P=gz iU (b:Nat)/\Gh aG (l.drop (a+1))=Gh f (l.drop (a+1+b))/\LY wr d p L f F'/\AQ F F' w wr)(λP _=>l.length-(intOf P).toNat)
   case atStart=>exact⟨0,aG,S,Bd _,rfl,rfl,X,ab⟩
   case round=>
    obtain⟨b,f,F',v,rfl,an,au,ap⟩:=hrel;obtain⟨R,W,D⟩:=l9 an au ap;clear an au ap;have bp:=XI b (Ω aL.out);by_cases ao:b<l.length-(a+1)
    ·have K:a+1+b<l.length:=O;obtain⟨bg,bh,G,bb,r,aw,az,aD,aE⟩:=LkR.at (aR.moved D).1 (a+1+b) K;injection G with G
     injection G with a0 a1
     subst a0 a1;rw[show ac+(a+1+b)*5=ac+(a+1)*5+b*5 by omega]at r aw az aD aE;obtain⟨e,k,M,N⟩:=aM _ (BO K);have i:Hid (Gh f (l.drop (a+1+b))=if(DT f l[a+1+b].off).2=0 then Gh (DT f l[a+1+b].off).1 (l.drop (a+1+(b+1)))else DT f l[a+1+b].off):=Ac (by
      rw[BX K,Gh];rfl)
     generalize l[a+1+b]=a6 at*;obtain⟨Q,ba,a5,a4,a7⟩:=a6;simp only at r aw az aD aE i k;obtain⟨bd,ah,am,bc⟩:=E5 wr 197 [Q,ba,a5,a4,a7];have C:=Ac (LZ (W.below am) Q O);obtain⟨⟨a8,ae⟩,m⟩:∃E,DT f Q=E:=⟨_,rfl⟩;rw[m]at i C;simp only at i C;have V:=Ac ah;have a3:=dT ((b:Int)<((l.length-(a+1):Nat):Int));have B:=dT (b<l.length-(a+1)) ao;have bq:(b:Int)<((l.length-(a+1):Nat):Int):=O;clear ah am m k M N;go_wp2_with fail;rw[<-V.out];refine C.mono ?_;rintro j bs⟨rfl,T,av,Z⟩;have Y:=Ac av;have aa:=Ac ((D.trans (mW (by rw[V.out];exact mZ.alloc (Ae _) _))).trans Z);clear av Z C;by_cases J:ae=0
     ·subst J;rw[kX rfl]at i;go_wp2;exact⟨⟨b+1,a8,T,O,by go_num,by rw[R.out,i.out],Y,aa⟩,mz⟩
     ·have a9:(ae==0)=false:=beq_eq_false_iff_ne.2 J;rw[lg J]at i;go_wp2;go_ret;rw[g.out,R.out,i.out];exact⟨rfl,T,Y,aa⟩
    ·have a3:=dF ((b:Int)<((l.length-(a+1):Nat):Int));have B:=dF (b<l.length-(a+1)) ao;have aW:Hid (Gh f (l.drop (a+1+b))=(f,0)):=Ac (by rw[D9 O];rfl);go_wp2;go_ret;rw[g.out,R.out,aW.out];exact⟨rfl,F',W,D⟩
  ·have a9:(ad==0)=false:=beq_eq_false_iff_ne.2 I;rw[lg I]at g;go_wp2;go_ret;rw[g.out];exact⟨rfl,S,X,ab⟩
end
def TF(F:Nat->Prop)(bk a:Nat)(k:Nat):Prop:=F k\/k=bk\/k=a
structure Hm(w:jT)(F:Nat->Prop)(tt bk:Nat)(b:Bk)(t:Tb):Prop where
 box:Cm w tt 139 [AB bk]
 book:Ee w bk b
 map:Ry w b.nt t.Gn
 wt:b.wt=t.wt
 sets:∀i,i<8->FP w (TF F bk b.nt) (b.st i) (t.sets i)
 pile:WC b
 fb:¬F bk
 fn:¬F b.nt
 ft:¬F tt
 ne1:tt≠bk
 ne2:tt≠b.nt
 ne3:bk≠b.nt
section
variable{w w':jT}{F F':Nat->Prop}{tt bk:Nat}{b:Bk}{t:Tb}
def Hm.moved(h:Hm w F tt bk b t)(m:AQ F F' w w'):Hm w' F' tt bk b t:=by
 have e:AQ (TF F bk b.nt) (TF F' bk b.nt) w w':=⟨m.touch.mono (λc=>.inl),λc a=>by
  rcases a with a|a
  ·exact(m.own c a).imp .inl id
  ·exact .inl (.inr a)⟩
 exact⟨h.box.touch m.touch h.ft,h.book.touch m.touch h.fb,(m.touch.block _ h.map.lt h.fn).trans h.map,h.wt,λi d=>(h.sets i d).moved e,h.pile,
  m.out h.book.lt h.fb,m.out h.map.lt h.fn,m.out h.box.lt h.ft,h.ne1,h.ne2,h.ne3⟩
def Hm.below(h:Hm w F tt bk b t)(k:η w w'):Hm w' F tt bk b t:=h.moved (mW k)
def Hm.turn(h:Hm w F tt bk b t){a:Bk}{d:Tb}(k:Touch (·=bk) w w')(o:Ee w' bk a)(c:a.nt=b.nt)(l:a.wt=d.wt)(f:d.Gn=t.Gn)(g:WC a)
 (j:∀i,i<8->FP w' (TF F bk b.nt) (a.st i) (d.sets i)):Hm w' F tt bk a d:=
 ⟨h.box.touch k h.ne1,o,by rw[c,f];exact(k.block _ h.map.lt (λe=>h.ne3 e.symm)).trans h.map,l,by rw[c];exact j,g,h.fb,by rw[c];exact h.fn,h.ft,h.ne1,by rw[c];exact h.ne2,by rw[c];exact h.ne3⟩
def Hm.VD(h:Hm w F tt bk b t)(k:Touch (·=bk) w w'):∀i,i<8->FP w' (TF F bk b.nt) (b.st i) (t.sets i):=λi c=>
 (h.sets i c).moved ⟨k.mono (λ_ a=>.inr (.inl a)),λ_=>.inl⟩
def Rh(h:Hm w F tt bk b t):Calls prog 99 #[AB tt] w λa w'=>a=iO jS/\w=w':=by
 have c:=h.box.p1;clear h;go_in;go_wp2;go_ret;exact⟨rfl,rfl⟩
def Yv(h:Hm w F tt bk b t)(id:Int):Calls prog 58 #[AB tt,id] w λg w'=>g=iO (atV t.wt id)/\w=w':=by
 have i:=h.box.p1;have f:=Ac (Rh h);have a:=Ac (uB h.book id);rw[h.wt]at a;obtain⟨d,e,c⟩:∃d e,atV t.wt id=iJ #[d,e]:=by
  unfold atV;split
  ·exact⟨_,_,rfl⟩
  ·exact⟨_,_,rfl⟩
 rw[c]at a⊢;clear h c;go_in;go_wp2_with(first|(refine f.out.ro ?_)|(refine a.out.ro ?_));go_ret2;exact⟨rfl,rfl⟩
def Zm(t:Tb)(i:Nat)(x:ni):Tb:={t with wt:=setW t.wt i x true,sets:=IW t.sets i []}
def Gv(t:Tb)(i:Nat):Tb:={t with wt:=setW t.wt i 0 jS,sets:=IW t.sets i []}
def WE(h:Hm w F tt bk b t)(a:MM t.wt=jw)(x:Int):
 Calls prog 52 #[AB tt,gz iV x] w λe w'=>e=iO (iJ #[gz iU 0,gz iU 6])/\w=w':=by
 have f:=h.box.p1;have d:=Ac (Rh h);have c:=Ac (je h.book (by rw[h.wt];exact a) x);clear h a;go_in;go_wp2_with(first|(refine d.out.ro ?_)|(refine c.out.ro ?_));go_ret2;exact⟨rfl,rfl⟩
def zo(h:Hm w F tt bk b t){i:Nat}(k:MM t.wt=jm i)(x:ni):
 Calls prog 52 #[AB tt,x] w λc w'=>c=iO (iJ #[i,gz iU 0])/\
  ∃f,(b.many<16->f.many=b.many+1)/\f.nt=b.nt/\f.st i=fM jw 0 0/\Hm w' F tt bk f (Zm t i x)/\Touch (·=bk) w w':=by
 have r:=h.box.p1;have u:=(Xq k).1;have C:(i:Int)<8:=O;obtain⟨q,n,d⟩:=l9 (Rh h) (Aiz h.book h.pile (by rw[h.wt];exact k) x) h;clear h k;go_in;go_wp2_with(first|(refine q.out.ro ?_)|(refine n.out.mono ?_;rintro c B⟨rfl,e,s,g,l⟩;clear r;have r:=(d.box.touch l d.ne1).p1;have D:=g.cellSt i u;have E:=g.frozen (49+i);obtain⟨y,a,z⟩:=l9 g s l;clear n q g s l));go_ret2;have m:Touch (·=bk) w (B.setCell (Δ bk (49+i)) (fM jw 0 0)):=z.setCell (p:=Δ bk (49+i)) (.inl rfl) _;refine⟨rfl,{e with st:=λv=>if v=i then fM jw 0 0 else e.st v},a.many,a.nt,kX rfl,d.turn m (y.setSt i u _) a.nt ?_ rfl ⟨a.pile.heap,a.pile.ids,a.pile.has,a.pile.len⟩ ?_,m⟩
 ·show({ats:=e.ats,ops:=e.ops}:Wt)={ats:=IW t.wt.ats i x,ops:=IW t.wt.ops i true};rw[a.ats,a.ops,<-d.wt];rfl
 ·intro j A;show FP _ _ (if j=i then _ else e.st j) (if j=i then[]else t.sets j);by_cases c:j=i
  ·rw[kX c,kX c];exact FP.nil
  ·rw[lg c,lg c,a.st];exact d.VD m j A
def Zn(h:Hm w F tt bk b t){i:Nat}(hi:i<8)(k:t.wt.ops i=true):
 Calls prog 64 #[AB tt,i] w λc w'=>c=iO (gz iU 0)/\
  ∃g,g.many=b.many/\g.nt=b.nt/\Hm w' F tt bk g (Gv t i)/\Touch (·=bk) w w':=by
 have r:=h.box.p1;have A:(i:Int)<8:=O;obtain⟨q,n,d⟩:=l9 (Rh h) (Adt h.book h.pile hi (by have:=h.wt;unfold Bk.wt at this;rw[<-this]at k;exact k)) h;clear h k;go_in;go_wp2_with(first|(refine q.out.ro ?_)|(refine n.out.mono ?_;rintro c z⟨rfl,e,s,f,l⟩;clear r;have r:=(d.box.touch l d.ne1).p1;have B:=f.cellSt i hi;have C:=f.frozen (49+i);obtain⟨v,a,x⟩:=l9 f s l;clear n q f s l));go_ret;have m:Touch (·=bk) w (z.setCell (Δ bk (49+i)) (fM jw 0 0)):=x.setCell (p:=Δ bk (49+i)) (.inl rfl) _;refine⟨rfl,{e with st:=λu=>if u=i then fM jw 0 0 else e.st u},a.many,a.nt,d.turn m (v.setSt i hi _) a.nt ?_ rfl ⟨a.pile.heap,a.pile.ids,a.pile.has,a.pile.len⟩ ?_,m⟩
 ·show({ats:=e.ats,ops:=e.ops}:Wt)={ats:=IW t.wt.ats i 0,ops:=IW t.wt.ops i jS};rw[a.ats,a.ops,<-d.wt];rfl
 ·intro j y;show FP _ _ (if j=i then _ else e.st j) (if j=i then[]else t.sets j);by_cases c:j=i
  ·rw[kX c,kX c];exact FP.nil
  ·rw[lg c,lg c,a.st];exact d.VD m j y
def Anv(h:Hm w F tt bk b t)(x:ni):
 Calls prog 69 #[AB tt,x] w λg w'=>g=iO (gz iV ((Eo t.wt x).toNat:Int))/\
  ∃d,d.many<=b.many/\d.nt=b.nt/\Hm w' F tt bk d t/\Touch (·=bk) w w':=by
 have n:=h.box.p1;have i:=Ac (Rh h);have f:=Ac (Adv h.book h.pile x);rw[h.wt]at f;have c:=Ac h;clear h;go_in;go_wp2_with(first|(refine i.out.ro ?_)|(refine f.out.mono ?_;rintro g p⟨rfl,k,a,l,e⟩));go_ret;refine⟨rfl,k,a.many,a.nt,c.turn e l a.nt ?_ rfl a.pile ?_,e⟩
 ·rw[<-c.wt];unfold Bk.wt;rw[a.ats,a.ops]
 ·intro j m;rw[a.st];exact c.VD e j m
end
section
variable{w w':jT}{F F':Nat->Prop}{tt bk:Nat}{b:Bk}{t:Tb}
def SL{t:Wt}{i:Nat}(hi:i<8)(a:t.ops i=true):atV t (i:Int)=iJ #[gz iV ((t.ats i).toNat:Int),true]:=by
 unfold atV;rw[kX,Int.toNat_natCast];unfold Ey;simp only[Bool.and_eq_true,decide_eq_true_eq];exact⟨O,O,a⟩
def Vd(h:Hm w F tt bk b t){i:Nat}(hi:i<8)(p:t.wt.ops i=true)(g:(t.sets i).length<=100000):
 Calls prog 55 #[AB tt,i] w λd w'=>∃a,d=iO (iJ #[a,true])/\
  w'.ownsRow w 143 3 a (t.sets i).length (GK (t.sets i))/\η w w':=by
 have m:=h.box.p1;have q:(i:Int)<8:=O;have n:=h.book.cellSt i hi;have c:=Ac (Yv h (i:Int));rw[SL hi p]at c;have k:=Ac (Oq (h.sets i hi) g);clear h g;go_in;go_wp2_with(first|(refine c.out.ro ?_)|(refine k.out.mono ?_;rintro d r⟨a,rfl,f,e⟩;have l:=Ac f;have j:=Ac e;clear f e n m));go_ret2;exact⟨a,rfl,l,j⟩
def writeT(t:Tb)(i:Nat)(s:List Wr):Tb:={t with sets:=IW t.sets i s}
def Anw(h:Hm w F tt bk b t)(N:∀a,F a->a<w){i:Nat}(hi:i<8)(aa:t.wt.ops i=true)(x:Wr)(s:List Wr)
 (P:∀e,η w e->Calls prog 155 #[b.st i,OY x] e λc w'=>∃H,c=iO (iJ #[H,gz iU 0])/\w'.ownsRow e 143 3 H s.length (GK s)/\η e w'):
 Calls prog 101 #[AB tt,i,OY x] w λc w'=>c=iO (gz iU 0)/\
  ∃y,y.many=b.many/\y.nt=b.nt/\Hm w' F tt bk y (writeT t i s)/\Touch (·=bk) w w':=by
 obtain⟨e,D,o,L⟩:=E5 w 143 [x.key,x.text,x.gone];have f:Hm e F tt bk b t:=h.below o;obtain⟨I,J,K⟩:=L.p3;have M:=Ac (Rh f);have r:=Ac (uB f.book (i:Int));rw[f.wt,SL hi aa]at r;have z:=f.box.p1;have m:=f.book.cellSt i hi;have ad:(i:Int)<8:=O;have u:=Ac h;have V:Hid (∀a,F a->w<=a->False):=Ac (λa G am=>absurd (N a G) O);obtain⟨k,T,v⟩:=l9 o D P;obtain⟨R,ac⟩:∃R,b.st i=R:=⟨_,rfl⟩;rw[ac]at v m;rw[D]at I J K z m;unfold OY at v⊢;clear h f o D P L N;go_in;go_wp2_with(first|(rw[<-T.out]at I J K z m⊢;refine M.ro ?_)|(refine r.ro ?_));go_region_with(go_at_call 155;refine(v _ (by first|exact k|exact τ k.out (mX _))).mono ?_;rintro c g⟨H,rfl,C,B⟩;obtain⟨q,A,ab,_,_⟩:=C9 C;subst ab)
 all_goals(
  have E:η w g:=by
   first
   |exact τ k.out B
   |exact τ k.out ((mX _).trans B)
  have Q:FP g (TF F bk b.nt) (fM q s.length A) s:=Yq C rfl (λa G _ W=>by
   have Z:w<=a:=AZ k.size G;rcases W with X|rfl|rfl
   ·exact V a X Z
   ·exact absurd u.book.lt O
   ·exact absurd u.map.lt O)
  have l:Hm g F tt bk b t:=u.below E;have ae:=l.box.p1;have ah:=l.book.cellSt i hi;have al:=l.book.frozen (49+i);obtain⟨d,U,S⟩:=l9 l E Q;clear l E Q C B I J K z m M r;go_wp2;go_ret;have n:Touch (·=bk) g (g.setCell (Δ bk (49+i)) (fM q s.length A)):=(Touch.refl (·=bk) g).setCell (p:=Δ bk (49+i)) (.inl rfl) _;refine⟨rfl,{b with st:=λa=>if a=i then(fM q s.length A)else b.st a},rfl,rfl,d.turn n (d.book.setSt i hi _) rfl d.wt rfl ⟨d.pile.heap,d.pile.ids,d.pile.has,d.pile.len⟩ ?_,(mD U).trans n (λ_=>.inl)⟩;intro j Y;show FP _ _ (if j=i then _ else b.st j) (if j=i then s else t.sets j);by_cases c:j=i
  ·rw[kX c,kX c];exact S.moved ⟨n.mono (λ_ c=>.inr (.inl c)),λ_=>.inl⟩
  ·rw[lg c,lg c];exact d.VD n j Y)
end
def Anx(a:jT):(zeroValue 47).run prog a=.ok (gz iV 0) a:=by kernel_rfl
section
variable{w w':jT}{F F':Nat->Prop}{tt bk:Nat}{b:Bk}{t:Tb}
def jr(h:Hm w F tt bk b t){i:Nat}(hi:i<8)(M:t.wt.ops i=true)(N:(t.sets i).length<=100000):
 Calls prog 65 #[AB tt,i] w λK w'=>K=iO (iw (JH t.Gn (t.sets i) (t.wt.ats i)))/\η w w':=by
 have B:=h.box.p1;have Y:(i:Int)<8:=O;have p:=h.book.cellSt i hi;have l:=Ac (Yv h (i:Int));rw[SL hi M]at l;obtain⟨W,Z,r⟩:=(h.sets i hi).slice;rw[r]at p;have m:=Ac (h.sets i hi);rw[r]at m;have J:=Ac h;obtain⟨s,G⟩:∃s,t.sets i=s:=⟨_,rfl⟩;rw[G]at N m p⊢;obtain⟨x,I⟩:∃x,t.wt.ats i=x:=⟨_,rfl⟩;rw[I]at l⊢;clear h G I r;go_in;go_wp2_with(refine l.out.ro ?_);go_loopw [27](λi wr=>∃a:Nat,a<=s.length/\i=gz iU (a:Nat)/\JH t.Gn s x=JH t.Gn (s.drop a) x/\η w wr)(λi _=>s.length-(intOf i).toNat)
 case atStart=>exact⟨0,Bd _,rfl,rfl,mZ⟩
 case round=>
  obtain⟨a,ae,rfl,D,o⟩:=hrel;have g:=Ac D;have f:=Ac o;clear D o B p;have y:=Ac (J.below f);have B:=y.box.p1;by_cases k:a<s.length
  ·obtain⟨X,aq,aa,H,ad,ac,ah,R,S,T⟩:=(m.below f).at a k;simp only[Value.slice.injEq]at H;obtain⟨rfl,-,rfl⟩:=H;have am:=XH k;have al:=XI a O;have c:Hid (JH t.Gn s x=(decide (x.toNat<(GI t.Gn s[a].key).toNat)||JH t.Gn (s.drop (a+1)) x)):=Ac (by
    rw[g.out,BX k];rfl)
   generalize s[a]=V at*;obtain⟨e,U,L⟩:=V;simp only at R S T c;obtain⟨A,C,q,u⟩:=E5 wr 143 [e,U,L];have j:=(show Hm A F tt bk b t from y.below q);have d:=j.box.c0;have ar:=u.c0;have ab:=j.book.Ang;have ap:=λn=>Agm (P:=prog) underlying125 underlying9 Anx (A.drewN n) b.nt t.Gn e (j.map.below ((Dr.one _ n).below _))
   have v:=Ac (τ f.out q);have z:=Ac C;clear g q C u j;cases E:decide (x.toNat<(GI t.Gn e).toNat)with
   |true=>
    rw[E]at c;generalize(GI t.Gn e).toNat=Q at*;go_wp2_with fail;rw[<-z.out];go_quiet(fail);go_wp2;go_ret;exact⟨by rw[c.out];rfl,v.trans (((Dr.one _ _).below _))⟩
   |false=>
    rw[E]at c;generalize(GI t.Gn e).toNat=Q at*;go_wp2_with fail;rw[<-z.out];go_quiet(fail);go_wp2;exact⟨⟨a+1,O,by go_num,by rw[c.out];rfl,v.trans (((Dr.one _ _).below _))⟩,mz⟩
  ·obtain⟨an,ao⟩:=wO k;have c:Hid (JH t.Gn s x=jS):=Ac (by rw[g.out,D9 O];rfl);clear g;go_wp2;go_ret;exact⟨by rw[c.out];rfl,f⟩
end
def bk0(m:Nat):Bk:={ats:=λ_=>0,ops:=λ_=>jS,Iz:=λ_=>(0,0),many:=0,st:=λ_=>fM jw 0 0,nt:=m}
def tb0:Tb:={wt:={ats:=λ_=>0,ops:=λ_=>jS},sets:=λ_=>[],Gn:=[]}
def bkL(m:Nat):List Value:=[wv 0,wv 0,wv 0,wv 0,wv 0,wv 0,wv 0,wv 0,iw jS,iw jS,iw jS,iw jS,iw jS,iw jS,iw jS,iw jS,
 wv 0,gz iU 0,wv 0,gz iU 0,wv 0,gz iU 0,wv 0,gz iU 0,wv 0,gz iU 0,wv 0,gz iU 0,wv 0,gz iU 0,wv 0,gz iU 0,
 wv 0,gz iU 0,wv 0,gz iU 0,wv 0,gz iU 0,wv 0,gz iU 0,wv 0,gz iU 0,wv 0,gz iU 0,wv 0,gz iU 0,wv 0,gz iU 0,
 gz iU 0,fM jw 0 0,fM jw 0 0,fM jw 0 0,fM jw 0 0,fM jw 0 0,fM jw 0 0,fM jw 0 0,fM jw 0 0,.map (jm m)]
def lt8{i:Nat}(h:i<8):i=0\/i=1\/i=2\/i=3\/i=4\/i=5\/i=6\/i=7:=O
def A2t{i:Nat}(h:i<16):i=0\/i=1\/i=2\/i=3\/i=4\/i=5\/i=6\/i=7\/i=8\/i=9\/i=10\/i=11\/i=12\/i=13\/i=14\/i=15:=O
def Anz{w:jT}{bk m:Nat}(h:Cm w bk 137 (bkL m)):Ee w bk (bk0 m):=by
 refine⟨_,h,rfl,λb a=>?_,λb a=>?_,λb a=>?_,rfl,λb a=>?_,rfl⟩
 ·rcases lt8 a with rfl|rfl|rfl|rfl|rfl|rfl|rfl|rfl<;>rfl
 ·rcases lt8 a with rfl|rfl|rfl|rfl|rfl|rfl|rfl|rfl<;>rfl
 ·rcases A2t a with rfl|rfl|rfl|rfl|rfl|rfl|rfl|rfl|rfl|rfl|rfl|rfl|rfl|rfl|rfl|rfl<;>exact⟨rfl,rfl⟩
 ·rcases lt8 a with rfl|rfl|rfl|rfl|rfl|rfl|rfl|rfl<;>rfl
def An0(m:Nat):WC (bk0 m):=⟨λb _ a=>absurd a (Wn _),λ_⟨b,a,_⟩=>absurd a (Wn _),λ_ _ h=>Bool.noConfusion h,by show 0<=16;omega⟩
def An1(F:Nat->Prop)(w:jT)(hF:∀d,F d->d<w.heap.size):Calls prog 25 #[] w λg w'=>∃tt bk e,g=iO (AB tt)/\w.heap.size<=tt/\w.heap.size<=bk/\w.heap.size<=e/\Hm w' F tt bk (bk0 e) tb0/\η w w':=by
 have m:=λf=>run_makeMap (P:=prog) 125 f
 go_enter func25,ntmps25;go_wp2;go_ret;refine⟨w.heap.size+1+1,w.heap.size+1,w.heap.size,rfl,O,O,O,?_,((mZ.alloc (Ae _) _).alloc Θ _).alloc (by simp;omega) _⟩;have k:(w.alloc (.map #[] 0)).heap.size=w.heap.size+1:=by simp
 obtain⟨a,b⟩:=ε ((w.alloc (.map #[] 0)).alloc (ji (bkL w.heap.size).toArray 137));have l:a.heap.size=w.heap.size+1+1:=by rw[b];simp
 have j:Cm a (w.heap.size+1) 137 (bkL w.heap.size):=by
  have:=heap_alloc_new (w.alloc (.map #[] 0)) (ji (bkL w.heap.size).toArray 137);rw[k,<-b]at this;exact this
 have c:=heap_alloc_new a (ji #[AB (w.heap.size+1)] 139);rw[l]at c;have i:a.heap[w.heap.size]?=jm (.map #[] 0):=by rw[b];exact(χ _ _ O).trans (heap_alloc_new _ _)
 show Hm (((w.alloc (.map #[] 0)).alloc (ji (bkL w.heap.size).toArray 137)).alloc (ji #[AB (w.heap.size+1)] 139)) _ _ _ _ _;rw[<-b];refine⟨c,Anz ((χ _ _ O).trans j),(χ _ _ (by show w.heap.size<_;omega)).trans i,rfl,λ_ _=>FP.nil,An0 _,λh=>absurd (hF _ h) O,λh=>absurd (hF _ h) (by show¬w.heap.size<w.heap.size;omega),λh=>absurd (hF _ h) O,O,?_,?_⟩
 ·show w.heap.size+1+1≠w.heap.size;omega
 ·show w.heap.size+1≠w.heap.size;omega
def Py(t:Tb)(s:List Wr)(x:ni):Tb:={t with Gn:=yN t.Gn s x}
section
variable{w w':jT}{F F':Nat->Prop}{tt bk:Nat}{b:Bk}{t:Tb}
def Hm.note(h:Hm w F tt bk b t){l:List (nG×ni)}(k:Touch (·=b.nt) w w')(d:Ry w' b.nt l):Hm w' F tt bk b {t with Gn:=l}:=
 ⟨h.box.touch k h.ne2,h.book.touch k h.ne3,d,h.wt,λi c=>(h.sets i c).moved ⟨k.mono (λ_ a=>.inr (.inr a)),λ_=>.inl⟩,h.pile,h.fb,h.fn,h.ft,h.ne1,h.ne2,h.ne3⟩
def Agw(h:Hm w F tt bk b t){v:Value}{s:List Wr}(x:ni)(n:FP w (·=b.nt) v s)(ap:s.length<=100000):
 Calls prog 67 #[AB tt,v,x] w λV w'=>V=iO (iJ #[])/\Hm w' F tt bk b (Py t s x)/\Touch (·=b.nt) w w':=by
 have u:=Ac (Rh h);obtain⟨K,T,rfl⟩:=n.slice;have N:=Ac n;have M:=Ac h;clear h n;go_in;go_wp2_with(refine u.out.ro ?_);go_loopw [12](λq wr=>∃e a,e<=s.length/\q=gz iU (e:Nat)/\yN t.Gn s x=yN a (s.drop e) x/\Hm wr F tt bk b {t with Gn:=a}/\Touch (·=b.nt) w wr)(λq _=>s.length-(intOf q).toNat)
 case atStart=>exact⟨0,t.Gn,Bd _,rfl,rfl,M,mP⟩
 case round=>
  obtain⟨e,a,an,rfl,D,A,E⟩:=hrel;obtain⟨j,I,l⟩:=l9 D A E;clear D A E u;have m:FP wr (·=b.nt) (fM K s.length T) s:=N.moved ⟨l,λ_=>.inl⟩;by_cases k:e<s.length
  ·obtain⟨ae,aw,ah,G,am,al,ao,Y,Z,aa⟩:=m.at e k;simp only[Value.slice.injEq]at G;obtain⟨rfl,-,rfl⟩:=G;have ar:=XH k;have aq:=XI e O;have i:Hid (yN t.Gn s x=yN (Qu a s[e].key (nz (GI a s[e].key) x)) (s.drop (e+1)) x):=Ac (by
    rw[j.out,BX k];rfl)
   generalize s[e]=ac at*;obtain⟨c,ab,W⟩:=ac;simp only at Y Z aa i;obtain⟨f,B,C,r⟩:=E5 wr 143 [c,ab,W];have g:Hm f F tt bk b {t with Gn:=a}:=I.below C;have d:=g.box.c0;have ad:=r.c0;have U:=g.book.Ang;have X:=Agm (P:=prog) underlying125 underlying9 Anx f.drew b.nt a c g.map;have H:=Avt (P:=prog) underlying125 underlying9 f.drew b.nt a c (nz (GI a c) x) g.map;rw[show((nz (GI a c) x).toNat:Int)=if(GI a c).toNat<x.toNat then(x.toNat:Int)else((GI a c).toNat:Int)by unfold nz;split<;>rfl]at H;obtain⟨R,L,y⟩:=l9 B C g;clear B r g j m;go_wp2_with fail;rw[<-R.out];go_region
   all_goals(
    have J:Ry (EU f.drew b.nt (Rx 0 (Qu a c (nz (GI a c) x))).toArray (Qu a c (nz (GI a c) x)).length) b.nt (Qu a c (nz (GI a c) x)):=PT _ _ _ _ y.map.lt;have p:Touch (·=b.nt) f (EU f.drew b.nt (Rx 0 (Qu a c (nz (GI a c) x))).toArray (Qu a c (nz (GI a c) x)).length):=(mD (mX f)).trans (KP _ _ _ _) (λ_=>.inl);have z:=y.note p J;have Q:=Ac z;have S:=Ac ((l.trans (mD L) (λ_=>.inl)).trans p (λ_=>.inl));clear J p z d ad U X H;go_wp2_with fail;go_roundw)
   all_goals first
    |(case rel=>exact⟨e+1,_,O,by go_num,i,Q,S⟩)
    |(case measure=>simp[intOf];omega)
  ·obtain⟨au,av⟩:=wO k;have i:Hid (Py t s x={t with Gn:=a}):=Ac (by unfold Py;rw[j.out,D9 O];rfl);clear j m;go_wp2;go_end0;exact⟨rfl,by rw[i.out];exact I,l⟩
end
