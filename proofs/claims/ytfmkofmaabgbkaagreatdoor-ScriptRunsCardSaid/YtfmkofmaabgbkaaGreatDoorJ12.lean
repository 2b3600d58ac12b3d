import Derived.Test.YtfmkofmaabgbkaaGreatDoorJ10
set_option linter.defProp false
set_option maxHeartbeats 32000000
set_option maxRecDepth 100000
open List renaming length_drop->AQ,length_take->Ed,getD_eq_getElem?_getD->Bg,getElem?_eq_getElem->Ah,length_map->CZ,getElem?_take->Di,map_cons->BM,flatten_cons->LQ,getElem?_append_left->DK,getElem?_append_right->ED,drop_eq_getElem_cons->Cf,drop_of_length_le->DR,length_pos_iff->VH,length_append->AP,map_append->CE,nodup_append->Dl,nodup_cons->GN,nodup_nil->lD,mem_singleton->BQ,mem_append->AB,mem_map->Dk,mem_cons->CG,getElem?_cons_zero->Ag,getElem?_cons_succ->Am
open Nat renaming testBit_two_pow->Ada,mul_comm->J3,le_refl->Ae,zero_le->BA,zero_add->DI,succ_mul->Ar5,add_assoc->TW,lt_of_lt_of_le->Be,le_trans->Bq,le_of_lt->LP,lt_of_le_of_lt->J5
open Go.Lib renaming hid->Ac
open Go.Value renaming int->Aw,slice->Ad,ownBlock->AV
open Array renaming getElem?_eq_some_iff->AA
open Go.World renaming cell?_of_block->BI
open Go.Value renaming slice->fD,int->fP,string->fQ,bool->fU,tuple->gJ,agg->gU
open Go.Ending renaming returned->gY
open Go.IntKind renaming i64->gZ,u64->ig
open Go.Obj renaming cells->iy
open Option renaming some->iC,none->iD
open Bool renaming true->jm,false->jw
open Go renaming World->jD,Value->jL
namespace Go.Proofs.YtfmkofmaabgbkaaGreatDoor
open Go.RowKit
open Go.Proofs.Tryz
def Awg:jL:=gU #[fP ig 0,fP ig 0,fU jw,fQ ⟨#[]⟩]
def zH(l:List UInt64)(w:jD)(e:Ending)(w':jD):Prop:=
 η w w'/\match OB l with
  |none=>e=gY (gJ #[Awg,fU jw])
  |some a=>e=gY (gJ #[rcV a,fU jm])
def Zk{i:Ending->jD->Prop}{e:jD}{f:Array jL}{j:Func}(l:j.results= #[.cell 2 198,.tmp 3])(g:Nat){a b c d:jL}(h:CB e g 198 [a,b,c,d])(v:jL)(h2:f[2]?=iC (ptr0 g))(h3:f[3]?=iC v)
 (k:i (gY (gJ #[gU #[a,b,c,d],v])) e):bodyPost prog j i Exit.ret {tmps:=f,defers:=[]} e:=by
 obtain⟨m,n,o,p,f0,f1,f2,f3⟩:=CS h;refine bodyPost_ret (v:=gJ #[gU #[a,b,c,d],v]) (by simp[results,l,go_sem,h2,h3,m,n,o,p]) rfl k
def Sv(l:List UInt64)(m k:Nat):List UInt8:=(leBytes (l.drop 3)).take k++List.replicate (m-k) 0
def jG(l:List UInt64)(m k:Nat)(b:l.length=8)(c:m<=40)(a:k<=m):(Sv l m k).length=m:=by
 unfold Sv;have:=leBytes_length (l.drop 3);simp at this;simp;omega
def zI(l:List UInt64)(m k:Nat)(e:l.length=8)(g:m<=40)(f:k<m)(h3:3+k/8<l.length):(Sv l m k).set k (leB l[3+k/8] (k%8))=Sv l m (k+1):=by
 have b:=leBytes_length (l.drop 3);rw[AQ,e]at b;have a:=Jo (l.drop 3) (k/8) (k%8) (by rw[AQ];omega) O;rw[show 8*(k/8)+k%8=k by omega,List.getElem_drop]at a;unfold Sv;rw[List.set_append_right _ _ (by rw[Ed];omega),Ed,Nat.min_eq_left O,Nat.sub_self];obtain⟨d,c⟩:∃d,m-k=d+1:=⟨m-k-1,O⟩;rw[c,show m-(k+1)=d by omega,List.replicate_succ,List.set_cons_zero,List.take_add_one,a];simp
def Awh(n:Nat)(d:n<18446744073709551616):(bits BinOp.and ig (n:Int) 256 !=0)=decide (n/256%2=1):=by
 have h:=u64_and_nat n 256 d U;rw[show((256:Nat):Int)=256 from rfl]at h;rw[h];have c:n&&&256=if n.testBit 8 then 256 else 0:=by
  apply Nat.eq_of_testBit_eq;intro e;rw[Nat.testBit_and,show 256=2^8 from rfl,Ada];by_cases b:8=e
  ·subst b;cases n.testBit 8
   ·rfl
   ·decide
  ·rw[decide_eq_false b,Bool.and_false];split
   ·rw[Ada,decide_eq_false b]
   ·simp
 rw[c,Nat.testBit_eq_decide_div_mod_eq];by_cases a:n/2^8%2=1
 ·rw[jM (decide_eq_true a),decide_eq_true (by simpa using a)];rfl
 ·rw[ku (by rw[decide_eq_false a];exact Bool.false_ne_true),decide_eq_false (by simpa using a)];rfl
def byte_of(x:UInt64)(j:Nat):(x.toNat:Int)/2^(j*8)%256=((leB x j).toNat:Int):=by
 have:=qW x j;rw[J3 8 j]at this;exact this
def Aeu(l:List UInt64)(A:Option Addr)(c:Nat)(w:jD)(_:8<=c)(h:Ws w A 8 l):Calls prog 136 #[fD A 8 c] w (zH l w):=by
 have z:=h.len;obtain⟨ci,F,G,rfl,bb,an⟩:=h.at (show 0<8 by decide);obtain⟨e,aw,az,aa⟩:=newB w 198 [fP ig 0,fP ig 0,fU jw,fQ ⟨#[]⟩];obtain⟨g,Q⟩:∃n,n=l[0].toNat:=⟨_,rfl⟩;have bB:g<18446744073709551616:=Q▸UInt64.toNat_lt _;have a7:(l.getD 0 0).toNat=g:=by rw[Q,Bg,Ah ci];rfl
 rw[<-Q]at an;have D:=Ac a7;clear Q a7;have d0:e.cell? (Δ F G)=iC (fP ig (g:Int)):=by have:=(az.cell (p:=Δ F (G+0)) bb).trans an;simpa using this
 have am:=Ac aw;have aZ:=Ac az;have al:=Ac aa;obtain⟨cm,cn,co,cp,f0,f1,f2,f3⟩:=CS aa;rw[aw]at d0 cm cn co cp f0 f1 f2 f3;clear az aa aw;by_cases cw:40<g/65536
 ·have t1:decide ((40:Int)<(g:Int)/65536)=jm:=decide_eq_true O;have q:Hid (OB l=iD):=Ac (by unfold OB;rw[ku (by rintro⟨_,h⟩;rw[D.out]at h;omega)]);go_enter func136,ntmps136
  go_wp2_with fail
  rw[<-am.out];refine Zk rfl w.heap.size al.out (fU jw) rfl rfl ⟨aZ.out,?_⟩;rw[q.out];rfl
 ·have t1:decide ((40:Int)<(g:Int)/65536)=jw:=decide_eq_false O;obtain⟨b,bh⟩:=ε (g/65536);have t:b<=40:=O;have bi:∀e:jD,(Instr.makeSlice 22 (fP ig ((g:Int)/65536)) (fP ig ((g:Int)/65536))).run prog e=.ok (fD (iC (Φ e.heap.size)) b b) (e.alloc (iy (madeCells (Aw .u8 0).cells (b*1)) 5)):=λe=>by
   obtain⟨ch,b8,ce,cf,cg⟩:=info_parts Tryz.I4.hi;have m:(g:Int)/65536=(b:Int):=O;rw[m];have:=run_make (P:=prog) (w:=e) 22 5 ch (fP .u8 0) underlying22 b8 ce ig ig (b:Int) (b:Int) O O (by rw[cg];omega) O;rw[cf]at this;simpa using this
  obtain⟨a4,N⟩:=ε (e.alloc (iy (madeCells (Aw .u8 0).cells (b*1)) 5));have aE:=bi e;rw[<-N]at aE;obtain⟨i,R⟩:=ε e.heap.size;rw[<-R]at aE;have b6:e.heap.size=w.heap.size+1:=by rw[am.out];simp
  have aX:CB a4 i 5 ((Sv l b 0).map bv):=by
   have m:(Sv l b 0).map bv=(madeCells (Aw .u8 0).cells (b*1)).toList:=by rw[QV];simp[Sv]
   rw[m];unfold CB;rw[N,R,Array.toArray_toList];exact heap_alloc_new _ _
  have a8:Below i e a4:=by rw[N,R];exact(Below.refl _ _).alloc (Ae _) _
  have bE:=Ac aX;have bO:=Ac a8;have J:=Ac bh;have a1:Hid (i=w.heap.size+1):=Ac O;rw[am.out]at aE;clear aX a8 N bi bh R b6;go_enter func136,ntmps136
  go_wp2_with fail
  go_loopw [27](λaM wr=>∃a:Nat,a<=b/\aM=fP gZ (a:Nat)/\CB wr i 5 ((Sv l b a).map bv)/\Below i e wr)(λaM _=>b-(intOf aM).toNat)
  case atStart=>exact⟨0,BA _,rfl,bE.out,bO.out⟩
  case round=>
   obtain⟨a,cy,rfl,bk,aD⟩:=hrel;have S:=Ac bk;have ad:=Ac aD;have H:=Ac (aZ.trans (aD.mono (Ω a1.out)));clear bk aD;by_cases cc:a<b
   ·have b9:3+a/8<8:=O;obtain⟨cd,cs,cA,ao,_,b7⟩:=(h.below H.out).at b9;injection ao with ao
    injection ao with bY b2
    subst bY b2;have cb:=jG l b a z t O;obtain⟨cB,cz⟩:∃v,wr.cell? (Δ i a)=iC v:=⟨_,S.has (i:=a) (by rw[CZ];omega)⟩;have cx:=S.frozen a;have aR:=Ac (byte_of l[3+a/8] (a%8));have aV:Hid (CB (wr.setCell (Δ i a) (fP .u8 ((leB l[3+a/8] (a%8)).toNat:Int))) i 5 ((Sv l b (a+1)).map bv)):=Ac (by
     rw[<-zI l b a z t cc cd,List.map_set];exact S.AX a _)
    have a0:Hid (Below i e (wr.setCell (Δ i a) (fP .u8 ((leB l[3+a/8] (a%8)).toNat:Int)))):=Ac (ad.setCell (p:=Δ i a) (Ae _) _);obtain⟨x,bl⟩:∃x,l[3+a/8]=x:=⟨_,rfl⟩;rw[bl]at b7 aR aV a0;clear bl cb
    go_wp2_with fail
    rw[aR.out];go_roundw
    case rel=>exact⟨a+1,O,by go_num,aV.out,a0.out⟩
    case measure=>simp[intOf];omega
   ·have ca:a=b:=O;subst ca;obtain⟨cj,ct,cr,ap,_,a5⟩:=(h.below H.out).at (show 1<8 by decide);injection ap with ap
    injection ap with b0 b1
    subst b0 b1;obtain⟨ck,cv,cq,aq,_,a6⟩:=(h.below H.out).at (show 2<8 by decide);injection aq with aq
    injection aq with b3 b4
    subst b3 b4;have bX:wr.cell? (Δ F G)=iC (fP ig (g:Int)):=by have:=(H.cell (p:=Δ F (G+0)) bb).trans an;simpa using this
    obtain⟨d,aF⟩:∃d:ByteArray,d=⟨((leBytes (l.drop 3)).take a).toArray⟩:=⟨_,rfl⟩;have av:Sv l a a=(leBytes (l.drop 3)).take a:=by simp[Sv]
    have ar:Bs wr (iC (Φ i)) a ((leBytes (l.drop 3)).take a):=by
     have:=S.rd;rw[av,CZ]at this;have m:((leBytes (l.drop 3)).take a).length=a:=by rw[<-av];exact jG l a a z t (Ae _)
     rw[m]at this;exact this
    have ba:η wr wr.drew:=(Dr.drew wr).below _;have a9:η wr (wr.alloc (iy #[fP ig 0,fP ig 0,fU jw,fQ ⟨#[]⟩] 198)).drew:=((Below.refl _ _).alloc (Ae _) _).trans ((Dr.drew _).below _);have bc:=J9 (P:=prog) underlying22 underlying5 underlying9 (ar.below ba) a;have bd:=J9 (P:=prog) underlying22 underlying5 underlying9 (ar.below a9) a;rw[<-aF]at bc bd;clear ba a9;obtain⟨f,bg⟩:∃f,(bits BinOp.and ig (g:Int) 256 !=0)=f:=⟨_,rfl⟩;obtain⟨j,aJ⟩:∃x,l[1]=x:=⟨_,rfl⟩;obtain⟨k,aL⟩:∃x,l[2]=x:=⟨_,rfl⟩;rw[aJ]at a5;rw[aL]at a6;have bL:=Ac aJ;have bN:=Ac aL;have bH:=Ac bg;have a2:=Ac aF;clear aJ aL aF av ar
    go_wp2_with fail
    go_region
    all_goals(obtain⟨E,L⟩:=ε ((wr.alloc (iy #[fP ig (j.toNat:Int),fP ig (k.toNat:Int),fU f,fQ d] 198)).drew))
    all_goals(have ac:CB E wr.heap.size 198 [fP ig (j.toNat:Int),fP ig (k.toNat:Int),fU f,fQ d]:=by rw[L];exact heap_alloc_new _ _)
    all_goals(have Y:η wr E:=by rw[L];exact((Below.refl _ _).alloc (Ae _) _).trans ((Dr.drew _).below _))
    all_goals(have bs:=τ H.out Y)
    all_goals(have a3:CB E w.heap.size 198 _:=(al.below ad.out (Ω a1.out)).below Y (Ψ ad.size al.lt))
    all_goals(have ah:=Ac (jo ⟨j,k,f,d⟩ E (by show d.size<=_;have b5:d.size=((leBytes (l.drop 3)).take a).length:=(by rw[a2.out];rfl);rw[b5,Ed];omega)))
    all_goals(rw[<-L])
    all_goals(unfold rcV at ah)
    all_goals(obtain⟨u0,u1,u2,u3,_,_,_,_⟩:=CS ac)
    all_goals(have ae:Hid (Va l=⟨j,k,f,d⟩):=Ac (by
     have bR:l.getD 1 0=j:=by rw[Bg,Ah cj];exact bL.out
     have bS:l.getD 2 0=k:=by rw[Bg,Ah ck];exact bN.out
     have bV:decide (g/256%2=1)=f:=by rw[<-bH.out];exact(Awh g bB).symm
     unfold Va;rw[bR,bS,D.out,bV,<-J.out,<-a2.out]))
    all_goals(have bG:=Ac ac)
    all_goals(have bJ:=Ac a3)
    all_goals(have bC:=Ac bs)
    all_goals(clear ac a3 bs Y L bX a5 a6 bc bd bg)
    all_goals(go_wp2_with fail)
    all_goals(refine ah.out.mono ?_)
    all_goals(rintro m br⟨T,s⟩)
    all_goals(have I:=τ bC.out T)
    all_goals(have K:=bJ.out.ξ T)
    all_goals(have ab:=bG.out.ξ T)
    all_goals(cases u:DZ ⟨j,k,f,d⟩)
    all_goals(rw[u]at s)
    all_goals(have X:=Ac K)
    all_goals(have V:=Ac I)
    all_goals(have bD:=Ac ab)
    all_goals(clear ah u0 u1 u2 u3 T)
    all_goals first
     |(replace s:m=gY (gJ #[fD iD 0 0,fU jw]):=s
       subst s;have q:Hid (OB l=iD):=Ac (by unfold OB;rw[jM ⟨z,by rw[D.out,<-J.out];exact t⟩,ae.out,u];simp);obtain⟨bt,bw,bx,bA,bm,bo,bp,bq⟩:=CS K;clear u K ab I
       go_wp2_with fail
       have C:=(((X.out.AX 0 (fP ig 0)).AX 1 (fP ig 0)).AX 2 (fU jw)).AX 3 (fQ ⟨#[]⟩);have LZ:=(((V.out.setCell (p:=Φ w.heap.size) (Ae _) (fP ig 0)).setCell (p:=Δ w.heap.size 1) (Ae _) (fP ig 0)).setCell (p:=Δ w.heap.size 2) (Ae _) (fU jw)).setCell (p:=Δ w.heap.size 3) (Ae _) (fQ ⟨#[]⟩);refine Zk rfl w.heap.size C (fU jw) rfl rfl ⟨LZ,?_⟩;rw[q.out];rfl)
     |(replace s:∃M,m=gY (gJ #[fD (iC (Φ M)) 8 8,fU jm])/\br.ownsRow E.heap.size 40 1 (fD (iC (Φ M)) 8 8) 8 ((Ee ⟨j,k,f,d⟩).map wv):=s
       obtain⟨M,rfl,bj⟩:=s;have be:=Ri (iC (Φ M)) (iC (Δ F G)) 8 8 8 c (Ee ⟨j,k,f,d⟩) l br U U (CQ bj).2 (h.below I);have B:=Ac be;clear be bj ab K I;by_cases y:Ee ⟨j,k,f,d⟩=l
       ·have q:Hid (OB l=iC ⟨j,k,f,d⟩):=Ac (by unfold OB;rw[jM ⟨z,by rw[D.out,<-J.out];exact t⟩,ae.out,jM ⟨u,y⟩]);rw[decide_eq_true y]at B;clear y u
        go_wp2_with fail
        refine B.mono ?_;rintro m cl⟨rfl,o⟩;have r:=X.out.ξ (o.below _);have aW:=bD.out.ξ (o.below _);have W:=Ac (V.out.trans (o.below w.heap.size));obtain⟨bt,bw,bx,bA,bm,bo,bp,bq⟩:=CS r;obtain⟨u0,u1,u2,u3,_,_,_,_⟩:=CS aW;have Z:=Ac r;clear r aW o B
        go_wp2_with fail
        have C:=(((Z.AX 0 (fP ig (j.toNat:Int))).AX 1 (fP ig (k.toNat:Int))).AX 2 (fU f)).AX 3 (fQ d);have LZ:=(((W.setCell (p:=Φ w.heap.size) (Ae _) (fP ig (j.toNat:Int))).setCell (p:=Δ w.heap.size 1) (Ae _) (fP ig (k.toNat:Int))).setCell (p:=Δ w.heap.size 2) (Ae _) (fU f)).setCell (p:=Δ w.heap.size 3) (Ae _) (fQ d);refine Zk rfl w.heap.size C (fU jm) rfl rfl ⟨LZ,?_⟩;rw[q.out];rfl
       ·have q:Hid (OB l=iD):=Ac (by unfold OB;rw[jM ⟨z,by rw[D.out,<-J.out];exact t⟩,ae.out,ku (λh=>y h.2)]);rw[decide_eq_false y]at B;clear y u
        go_wp2_with fail
        refine B.mono ?_;rintro m cl⟨rfl,o⟩;have r:=X.out.ξ (o.below _);have W:=Ac (V.out.trans (o.below w.heap.size));obtain⟨bt,bw,bx,bA,bm,bo,bp,bq⟩:=CS r;have Z:=Ac r;clear r o B
        go_wp2_with fail
        have C:=(((Z.AX 0 (fP ig 0)).AX 1 (fP ig 0)).AX 2 (fU jw)).AX 3 (fQ ⟨#[]⟩);have LZ:=(((W.setCell (p:=Φ w.heap.size) (Ae _) (fP ig 0)).setCell (p:=Δ w.heap.size 1) (Ae _) (fP ig 0)).setCell (p:=Δ w.heap.size 2) (Ae _) (fU jw)).setCell (p:=Δ w.heap.size 3) (Ae _) (fQ ⟨#[]⟩);refine Zk rfl w.heap.size C (fU jw) rfl rfl ⟨LZ,?_⟩;rw[q.out];rfl)
def own_rowk{w:jD}{base k n:Nat}{e:TypeId}{v:jL}{xs:List jL}(h:w.ownsRow base e k v n xs):∃A b,v=fD A n b/\n<=b/\Rd w A (n*k) xs:=by
 rcases h.2 with⟨a,d⟩|⟨c,m,g,a,d,f,i,o,p,j⟩
 ·subst d;exact⟨iD,0,a,Ae _,h.1,λl=>O⟩
 ·refine⟨_,_,a,i,h.1,λl=>⟨c,0,rfl,(AA.1 f).1,λr q=>?_⟩⟩;rw[cell_of_row w c _ g _ (0,0) f,<-j,Di,jM O];simp
def flat_get{g:Type}(f:g->List jL)(m:Nat)(a:∀b,(f b).length=m):∀(l:List g)(k i:Nat)(d:k<l.length),i<m->((l.map f).flatten)[k*m+i]?=(f l[k])[i]?
 |b::e,0,i,_,c=>by
  rw[BM,LQ,Nat.zero_mul,DI,DK (by rw[a];exact c)];rfl
 |b::e,k+1,i,d,c=>by
  rw[BM,LQ,ED (by rw[a,Ar5];omega),a,show(k+1)*m+i-m=k*m+i by rw[Ar5];omega];exact flat_get f m a e k i (by simpa using d) c
def lkC(k:Lk):List jL:=[fP gZ k.off,fP ig (k.rc.stamp.toNat:Int),fP ig (k.rc.next.toNat:Int),fU k.rc.gone,fQ k.rc.text]
def gX(l:List Lk):List jL:=(l.map lkC).flatten
def tH(l:List Lk)(a:Lk):gX (l++[a])=gX l++lkC a:=by simp[gX]
def LkR(w:jD)(A:Option Addr)(l:List Lk):Prop:=Rd w A (l.length*5) (gX l)
def LkR.below{w w':jD}{A:Option Addr}{l:List Lk}(h:LkR w A l)(k:η w w'):LkR w' A l:=Rd.below h k
def LkR.at{w:jD}{A:Option Addr}{l:List Lk}(h:LkR w A l)(k:Nat)(j:k<l.length):∃a b,A=iC (Δ a b)/\a<w.heap.size/\w.cell? (Δ a (b+k*5))=iC (fP gZ l[k].off)/\w.cell? (Δ a (b+k*5+1))=iC (fP ig (l[k].rc.stamp.toNat:Int))/\
 w.cell? (Δ a (b+k*5+2))=iC (fP ig (l[k].rc.next.toNat:Int))/\w.cell? (Δ a (b+k*5+3))=iC (fU l[k].rc.gone)/\w.cell? (Δ a (b+k*5+4))=iC (fQ l[k].rc.text):=by
 obtain⟨a,b,e,f,g⟩:=h.2 O;have d:∀c,c<5->w.cell? (Δ a (b+k*5+c))=(lkC l[k])[c]?:=λc i=>by
  rw[TW,g (k*5+c) O];exact flat_get lkC 5 (λ_=>rfl) l k c j i
 exact⟨a,b,e,f,d 0 U,d 1 U,d 2 U,d 3 U,d 4 U⟩
def Zl{w:jD}{base:Nat}{v:jL}{l:List Lk}(h:w.ownsRow base 200 5 v l.length (gX l)):∃A a,v=fD A l.length a/\l.length<=a/\LkR w A l:=own_rowk h
section
variable{w w':jD}{d p L:Nat}{s:St}{F:Nat->Prop}
def EE.size{len:Dq}(h:EE len w d p L s F):Calls prog 33 #[ptr0 d] w λa w'=>a=gY (fP gZ ((L*64:Nat):Int))/\w=w':=by
 obtain⟨f,e,n,c,b,own,h,_⟩:=h;exact h.dev.size h.L1
def EE.pos{len:Dq}(h:EE len w d p L s F):0<L/\L<=1024/\gI L s.sh/\s.tk.length=s.sh.BO:=by
 obtain⟨e,c,n,b,a,own,h,_⟩:=h;exact⟨h.L0,h.L1,IK h.shape,by rw[h.Rj,h.iZ]⟩
def X7{len:Dq}(h:EE len w d p L s F):Calls prog 134 #[ptr0 d,ptr0 p] w λb w'=>b=gY (fU jw)/\w=w':=by
 have e:=h.pos.1;have t0:(((L*64:Nat):Int)==0)=jw:=ζ O;have a:=h.size;generalize L*64=f at a t0;have c:=Ac a;clear a h;go_enter func134,ntmps134
 go_wp2_with fail
 refine c.mono ?_;rintro b g⟨rfl,rfl⟩
 go_wp2_with fail
 go_ret;exact⟨rfl,rfl⟩
end
def Amx(l:List Lk)(a:Nat):jL:=match YO l a with
 |some b=>gJ #[fQ b,fU jm]
 |none=>gJ #[fQ ⟨#[]⟩,fU jw]
def Ai2(l:List Lk)(A:Option Addr)(c:Nat)(a:UInt64)(w:jD)(I:l.length<=100000)(h:LkR w A l):Calls prog 88 #[fD A l.length c,fP ig (a.toNat:Int)] w λt w'=>t=gY (Amx l a.toNat)/\η w w':=by
 have s:=Ac h;clear h;go_enter func88,ntmps88
 go_wp2_with fail
 go_loopw [10](λk wr=>∃b:Nat,b<=l.length/\k=fP gZ (b:Nat)/\YO l a.toNat=YO (l.drop b) a.toNat/\η w wr)(λk _=>l.length-(intOf k).toNat)
 case atStart=>exact⟨0,BA _,rfl,rfl,Below.refl _ _⟩
 case round=>
  obtain⟨b,H,rfl,o,n⟩:=hrel;have g:=Ac o;have d:=Ac n;clear o n;by_cases j:b<l.length
  ·obtain⟨F,L,rfl,G,z,B,C,D,E⟩:=(s.below d.out).at b j;obtain⟨u,K,v⟩:=ltT j;have J:=wk1 b O;have i:Hid (YO l a.toNat=if l[b].rc.stamp.toNat<=a.toNat then(if l[b].rc.gone then iD else iC l[b].rc.text)else YO (l.drop (b+1)) a.toNat):=Ac (by
    rw[g.out,Cf j,YO])
   generalize l[b]=m at*;obtain⟨y,f,x,p,m⟩:=m;simp only at z B C D E i;by_cases e:f.toNat<=a.toNat
   ·have t1:decide ((f.toNat:Int)<=(a.toNat:Int))=jm:=decide_eq_true O;have t2:decide (f.toNat<=a.toNat)=jm:=decide_eq_true e;rw[jM e]at i;clear e g;cases p
    all_goals(go_wp2_with fail)
    all_goals(go_ret2)
    all_goals(refine⟨?_,d.alloc d.size _⟩)
    all_goals(unfold Amx)
    all_goals(rw[i.out])
    all_goals rfl
   ·have t1:decide ((f.toNat:Int)<=(a.toNat:Int))=jw:=decide_eq_false O;have t2:decide (f.toNat<=a.toNat)=jw:=decide_eq_false e;rw[ku e]at i;have q:=Ac (d.alloc d.size (iy #[fP gZ y,fP ig (f.toNat:Int),fP ig (x.toNat:Int),fU p,fQ m] 200));clear e g
    go_wp2_with fail
    go_roundw
    case rel=>exact⟨b+1,O,by go_num,i.out,q.out⟩
    case measure=>simp[intOf];omega
  ·obtain⟨u,v⟩:=qA j;have r:Hid (YO l a.toNat=iD):=Ac (by rw[g.out,DR O];rfl);clear g
   go_wp2_with fail
   go_ret2;refine⟨?_,d.out⟩;unfold Amx;rw[r.out];rfl
def Aew(l:List Lk)(A:Option Addr)(c:Nat)(low:UInt64)(w:jD)(K:l.length<=100000)(h:LkR w A l):Calls prog 94 #[fD A l.length c,fP ig (low.toNat:Int)] w λx w'=>x=gY (fP gZ ((LY l low.toNat:Nat):Int))/\η w w':=by
 have v:=Ac h;clear h;go_enter func94,ntmps94
 go_wp2_with fail
 go_loopw [5,6,11](λH d o wr=>∃(a n:Nat)(m:Bool),a<=l.length/\n<=a/\o=fP gZ (a:Nat)/\H=fP gZ (n:Nat)/\d=fU m/\LY l low.toNat=n+OC low.toNat (l.drop a) m/\η w wr)(λ_ _ o _=>l.length-(intOf o).toNat)
 case atStart=>exact⟨0,0,jw,BA _,BA _,rfl,rfl,rfl,by rw[DI];rfl,Below.refl _ _⟩
 case round=>
  obtain⟨a,n,d,J,L,rfl,rfl,rfl,r,q⟩:=hrel;have g:=Ac r;have i:=Ac q;clear r q;by_cases k:a<l.length
  ·obtain⟨m,Q,rfl,I,C,D,E,F,G⟩:=(v.below i.out).at a k;have s:(a:Int)<(l.length:Int):=O;have P:decide ((a:Int)<(l.length:Int))=jm:=decide_eq_true s;have y:decide (a<l.length)=jm:=decide_eq_true k;have M:=wk1 a O;have N:=wk1 n O;have b:Hid (LY l low.toNat=n+if low.toNat<l[a].rc.stamp.toNat then OC low.toNat (l.drop (a+1)) d+1 else if d then OC low.toNat (l.drop (a+1)) d else OC low.toNat (l.drop (a+1)) jm+(if l[a].rc.gone then 0 else 1)):=Ac (by
    rw[g.out,Cf k,OC])
   generalize l[a]=p at*;obtain⟨B,f,z,t,p⟩:=p;simp only at C D E F G b;have j:=Ac (i.alloc i.size (iy #[fP gZ B,fP ig (f.toNat:Int),fP ig (z.toNat:Int),fU t,fQ p] 200));by_cases e:low.toNat<f.toNat
   ·have t1:decide ((low.toNat:Int)<(f.toNat:Int))=jm:=decide_eq_true O;have t2:decide (low.toNat<f.toNat)=jm:=decide_eq_true e;rw[jM e]at b;clear e g
    go_wp2_with fail
    go_roundw
    case rel=>exact⟨a+1,n+1,d,O,O,by go_num,by go_num,rfl,by rw[b.out];omega,j.out⟩
    case measure=>simp[intOf];omega
   ·have t1:decide ((low.toNat:Int)<(f.toNat:Int))=jw:=decide_eq_false O;have t2:decide (low.toNat<f.toNat)=jw:=decide_eq_false e;rw[ku e]at b;clear e g;cases d with
    |true=>
     rw[jM rfl]at b
     go_wp2_with fail
     go_roundw
     case rel=>exact⟨a+1,n,jm,O,O,by go_num,rfl,rfl,b.out,j.out⟩
     case measure=>simp[intOf];omega
    |false=>
     rw[ku Bool.false_ne_true]at b;cases t with
     |true=>
      rw[jM rfl]at b
      go_wp2_with fail
      go_roundw
      case rel=>exact⟨a+1,n,jm,O,O,by go_num,rfl,rfl,b.out,j.out⟩
      case measure=>simp[intOf];omega
     |false=>
      rw[ku Bool.false_ne_true]at b
      go_wp2_with fail
      go_roundw
      case rel=>exact⟨a+1,n+1,jm,O,O,by go_num,by go_num,rfl,by rw[b.out];omega,j.out⟩
      case measure=>simp[intOf];omega
  ·have s:decide ((a:Int)<(l.length:Int))=jw:=decide_eq_false O;have y:decide (a<l.length)=jw:=decide_eq_false k;have u:Hid (LY l low.toNat=n):=Ac (by rw[g.out,DR O];rfl);clear g
   go_wp2_with fail
   go_ret;exact⟨by rw[u.out];rfl,i.out⟩
def KT(w:jD)(G:Nat->Prop)(A:Option Addr)(n:Nat)(xs:List jL):Prop:=Rd w A n xs/\(0<n->∀a,A=iC a->¬G a.block)
section
variable{w w':jD}{G G':Nat->Prop}{A:Option Addr}{n:Nat}{xs:List jL}
def KT.moved(h:KT w G A n xs)(m:AL G G' w w'):KT w' G' A n xs:=by
 obtain⟨⟨k,f⟩,g⟩:=h;refine⟨⟨k,λb=>?_⟩,λb p a=>?_⟩
 ·obtain⟨d,j,a,c,i⟩:=f b;exact⟨d,j,a,Be c m.touch.size,λo l=>(BI (w:=w) (m.touch.block d c (g b _ a))).trans (i o l)⟩
 ·obtain⟨d,j,e,c,i⟩:=f b;rw[e]at a;injection a with a
  subst a;exact m.out c (g b _ e)
def KT.below(h:KT w G A n xs)(k:η w w'):KT w' G A n xs:=h.moved (AL.of_below k)
def KT.mono{F:Nat->Prop}(h:KT w G A n xs)(k:∀a,a<w.heap.size->F a->G a):KT w F A n xs:=⟨h.1,λd g b f=>by
 obtain⟨a,j,c,e,i⟩:=h.1.2 d;rw[c]at b;injection b with b
 subst b;exact h.2 d _ c (k _ e f)⟩
def KT.take(h:KT w G A n xs)(k:Nat)(o:k<=n):KT w G A k (xs.take k):=by
 obtain⟨⟨m,c⟩,d⟩:=h;refine⟨⟨by rw[Ed];omega,λi=>?_⟩,λi=>d O⟩;obtain⟨a,l,b,e,f⟩:=c O;exact⟨a,l,b,e,λj g=>by rw[f j O,Di,jM g]⟩
def KT.cut{b off c:Nat}(h:KT w G (iC (Δ b off)) n xs)(k:Nat)(t:k<=n)(r:n<=c):KT w G (if c=k then iC (Δ b off)else iC (Δ b (off+k))) (n-k) (xs.drop k):=by
 obtain⟨⟨q,g⟩,i⟩:=h;by_cases u:k=n
 ·refine⟨⟨by rw[AQ];omega,λd=>O⟩,λd=>O⟩
 ·rw[ku O];refine⟨⟨by rw[AQ];omega,λd=>?_⟩,λd o a=>?_⟩
  ·obtain⟨p,v,a,j,l⟩:=g O;injection a with a
   injection a with e f
   subst e f;exact⟨_,_,rfl,j,λm s=>by rw[TW,l (k+m) O,List.getElem?_drop]⟩
  ·injection a with a
   subst a;exact i O (Δ b off) rfl
def KT.OH{base c:Nat}{e:TypeId}(h:w.ownsRow base e 1 (fD A n c) n xs)(i:∀d,base<=d->d<w.heap.size->¬G d):KT w G A n xs:=by
 refine⟨(CQ h).2,λo j a=>?_⟩;rcases h.2 with⟨b,_⟩|⟨m,k,l,b,f,g,_⟩
 ·simp only[Value.slice.injEq]at b;rw[b.1]at a;cases a
 ·simp only[Value.slice.injEq]at b;rw[b.1]at a;injection a with a
  subst a;exact i _ f (AA.1 g).1
def KT.nil:KT w G A 0 []:=⟨Rd.nil,λh=>absurd h O⟩
end
def bT(w:jD)(G:Nat->Prop)(a b c d:jL)(e:Nd):Prop:=
 ∃f j g k i l,a=fD f e.pre.length j/\b=fP ig (e.val.toNat:Int)/\c=fD g e.labels.length k/\d=fD i e.kids.length l/\e.pre.length<=j/\
  KT w G f e.pre.length (e.pre.map bv)/\KT w G g e.labels.length (e.labels.map bv)/\KT w G i e.kids.length (e.kids.map wv)
def bT.moved{w w':jD}{G G':Nat->Prop}{a b c d:jL}{e:Nd}(h:bT w G a b c d e)(m:AL G G' w w'):bT w' G' a b c d e:=by
 obtain⟨f,j,g,k,i,l,n,o,p,q,u,r,s,t⟩:=h;exact⟨f,j,g,k,i,l,n,o,p,q,u,r.moved m,s.moved m,t.moved m⟩
def bT.At4{w:jD}{G:Nat->Prop}{base:Nat}{a b c d:jL}{i:Nd}(h:YW w base (gU #[a,b,c,d]) i)(f:∀b,base<=b->b<w.heap.size->¬G b):bT w G a b c d i:=by
 obtain⟨j,m,k,n,l,o,e,g,p,q⟩:=h;simp only[Value.agg.injEq]at e;simp at e;obtain⟨rfl,rfl,rfl,rfl⟩:=e;exact⟨j,m,k,n,l,o,rfl,rfl,rfl,rfl,(CQ g).1,KT.OH g f,KT.OH p f,KT.OH q f⟩
def bU{L:Nat}{s s1:St}{c off:Nat}(d:gI L s.sh)(e:s.tk.length=s.sh.BO)(i:c=1\/c=2)(h:DT s c=iC (off,s1)):∃b,off=8*b/\b+8*Bd c<=8*L:=by
 unfold DT at h;split at h
 ·cases h
 ·rename_i n j;split at h
  ·cases h
  ·rename_i f a;injection h with h
   injection h with g l
   have k:=(Rx j).1;have m:f<Bi c:=by
    unfold Lh at a;split at a
    ·exact mY a
    ·cases a
   unfold Df at g;have:=d.data;have:=d.fits;rw[e]at k;rcases i with rfl|rfl
   ·refine⟨off/8,?_,?_⟩<;>simp only[Bd,Bi]at* <;>omega
   ·refine⟨off/8,?_,?_⟩<;>simp only[Bd,Bi]at* <;>omega
def Ui(x:Nd):Dp x=1\/Dp x=2:=by unfold Dp;split<;>simp
def zL(x:Nd):(DL x).length=8*Bd (Dp x):=by
 rw[Hm];unfold Dp;split<;>rfl
def KU(j:Jm)(n:Nd):(D8 j n).1.made.length<=j.made.length+1:=by
 unfold D8;split
 ·simp
 ·split
  ·simp
  ·split;split
   ·split;split<;>simp
   ·simp
def PI(j:Jm)(n:Nd)(b:UInt8)(a:UInt64)(e:Int):(Gn j n b a e).1.made.length<=j.made.length+1:=by
 unfold Gn;split
 ·simp
 ·split
  ·exact KU _ _
  ·simp
def MV:∀(f:Nat)(j:Jm)(l:List UInt8)(a:UInt64),(JO f j l a).1.made.length<=j.made.length+f
 |0,j,l,a=>by simp[JO]
 |f+1,j,l,a=>by
  unfold JO;split
  ·have:=KU j ⟨l,a,[],[]⟩;omega
  ·have b:=MV f j (l.drop 16) a;split;rename_i e g c d;rw[d]at b;have:=PI e ⟨l.take 15,0,[],[]⟩ (l.getD 15 0) g c;simp only at b;omega
def zM(A B:Option Addr)(n m c d:Nat)(a b:List UInt8)(w:jD)(F:n<=4294967296)(_hm:m<=4294967296)(o:Bs w A n a)(q:Bs w B m b):
 Calls prog 132 #[fD A n c,fD B m d] w λg w'=>g=gY (fU (decide (a=b)))/\Dr w w':=by
 have D:=o.len;have E:=q.len;by_cases u:n=m
 ·subst u;have t1:((n:Int)!=(n:Int))=jw:=by simp
  go_enter func132,ntmps132;go_wp2
  go_loopw [13](λl wr=>∃f:Nat,f<=n/\l=fP gZ f/\(∀e(h1:e<a.length)(h2:e<b.length),e<f->a[e]=b[e])/\Dr w wr)(λl _=>n-(intOf l).toNat)
  case atStart=>exact⟨0,BA _,rfl,λe _ _ h=>absurd h O,Dr.refl _⟩
  case round=>
   obtain⟨f,C,rfl,k,M,rfl⟩:=hrel;by_cases r:f<n
   ·obtain⟨I,p,K,rfl,G,x⟩:=o.at r;obtain⟨J,L,v,rfl,H,y⟩:=q.at r;by_cases i:a[f]=b[f]
    ·have t2:(((a[f].toNat:Int))!=(b[f].toNat:Int))=jw:=by simp[i]
     have s:Hid (∀e(h1:e<a.length)(h2:e<b.length),e<f+1->a[e]=b[e]):=Ac λe h1 h2 z=>by
      by_cases g:e=f
      ·subst g;exact i
      ·exact k e h1 h2 O
     clear k i;go_wp2
     go_quiet(fail)
     go_wp2;go_roundw
     case rel=>exact⟨f+1,O,by go_num,s.out,by first|exact Dr.one _ _|exact Dr.two _ _ _⟩
     case measure=>simp[intOf];omega
    ·have t2:(((a[f].toNat:Int))!=(b[f].toNat:Int))=jm:=by
      rw[bne_iff_ne];intro g;exact i (UInt8.toNat_inj.1 O)
     have j:Hid (decide (a=b)=jw):=Ac (by rw[decide_eq_false_iff_not];intro g;subst g;exact i rfl);clear k i;go_wp2
     go_quiet(fail)
     go_wp2;go_ret;exact⟨by rw[j.out];rfl,by first|exact Dr.one _ _|exact Dr.two _ _ _⟩
   ·have t:f=n:=O;subst t;have j:Hid (decide (a=b)=jm):=Ac (by
     rw[decide_eq_true_iff];apply List.ext_getElem O;intro e h1 h2;exact k e h1 h2 O)
    clear k;go_wp2;go_ret;exact⟨by rw[j.out];rfl,Dr.one _ _⟩
 ·have t1:((n:Int)!=(m:Int))=jm:=by simp;omega
  have j:Hid (decide (a=b)=jw):=Ac (by rw[decide_eq_false_iff_not];intro g;subst g;omega);go_enter func132,ntmps132;go_wp2;go_ret;exact⟨by rw[j.out];rfl,Dr.refl _⟩
def Ach(w:jD)(o:Obj)(xs:List jL)(t:TypeId):CB ((w.alloc o).alloc (iy xs.toArray t)) (w.heap.size+1) t xs:=by
 have:=heap_alloc_new (w.alloc o) (iy xs.toArray t);rw[show(w.alloc o).heap.size=w.heap.size+1 by simp]at this;exact this
def YW.below{w w':jD}{base:Nat}{v:jL}{x:Nd}(h:YW w base v x)(k:η w w'):YW w' base v x:=by
 obtain⟨a,d,b,e,c,f,g,i,j,l⟩:=h;exact⟨a,d,b,e,c,f,g,own_below i k,own_below j k,own_below l k⟩
def PlV.len{w:jD}{base:Nat}{a:List jL}{p:Pl}(h:PlV w base a p):a.length=7:=by
 obtain⟨b,c,e,d,rfl,_⟩:=h;rfl
def X4.get{w:jD}{base:Nat}:∀(vs:List (List jL))(c:List Pl),X4 w base vs c->∀a(h:a<c.length),∃d,PlV w base d c[a]/\∀b,b<7->vs.flatten[7*a+b]?=d[b]?
 |[],[],_,a,e=>by simp at e
 |[],_::_,h,_,_=>h.elim
 |_::_,[],h,_,_=>h.elim
 |f::vs,p::c,h,0,e=>⟨f,h.1,λb g=>by
   have:=h.1.len;rw[LQ,DK O];simp⟩
 |f::vs,p::c,h,a+1,e=>by
   obtain⟨d,i,j⟩:=X4.get vs c h.2 a (by simpa using e);refine⟨d,by simpa using i,λb g=>?_⟩;have:=h.1.len;rw[LQ,ED O,<-j b g];congr 1;omega
structure Aci(w:jD)(base:Nat)(g i:Nat)(pl:Pl)(a b c d:jL):Prop where
 cells:∀j u,[a,b,c,d,fP gZ pl.off,fP .u8 (pl.label.toNat:Int),fP gZ pl.word][j]?=iC u->w.cell? (Δ g (7*i+j))=iC u
 nd:YW w base (gU #[a,b,c,d]) pl.nd
def OO.at{w:jD}{base:Nat}{v:jL}{b:List Pl}(h:OO w base v b)(p:b≠[]):∃a e,v=fD (iC (Φ a)) b.length e/\b.length<=e/\base<=a/\a<w.heap.size/\
 ∀c(hi:c<b.length),∃f g m d,Aci w base a c b[c] f g m d:=by
 obtain⟨A,y,z⟩:=h;rcases y.2 with⟨_,i⟩|⟨a,n,o,q,i,j,r,C,D,s⟩
 ·exact absurd (List.length_eq_zero_iff.1 i) p
 ·refine⟨a,n,q,r,i,(AA.1 j).1,λc hi=>?_⟩;obtain⟨B,⟨f,g,e,d,rfl,x⟩,t⟩:=X4.get A b z c hi;refine⟨f,g,e,d,⟨λl E k=>?_,x⟩⟩;have u:l<7:=by have:=(List.getElem?_eq_some_iff.1 k).1;simpa using this
  rw[cell_of_row w a _ o _ (0,0) j,<-k,<-t l u,<-s,Di,jM O];simp
def Aqe:jL:=gU #[fD iD 0 0,fP ig 0,fD iD 0 0,fD iD 0 0,fP gZ 0,fP .u8 0,fP gZ 0]
def At5{w:jD}{g:Nat}{e:TypeId}{a b c d k l m:jL}(h:CB w g e [a,b,c,d,k,l,m]):w.frozen? (Φ g)=jw/\w.frozen? (Δ g 1)=jw/\w.frozen? (Δ g 2)=jw/\w.frozen? (Δ g 3)=jw/\w.frozen? (Δ g 4)=jw/\w.frozen? (Δ g 5)=jw/\w.frozen? (Δ g 6)=jw:=
 ⟨h.frozen 0,h.frozen 1,h.frozen 2,h.frozen 3,h.frozen 4,h.frozen 5,h.frozen 6⟩
def X8{i:Ending->jD->Prop}{e:jD}{f:Array jL}{j:Func}(o:j.results= #[.cell 4 176,.tmp 5])(g:Nat){a b c d k l m:jL}(h:CB e g 176 [a,b,c,d,k,l,m])(v:jL)(h2:f[4]?=iC (ptr0 g))(h3:f[5]?=iC v)
 (n:i (gY (gJ #[gU #[a,b,c,d,k,l,m],v])) e):bodyPost prog j i Exit.ret {tmps:=f,defers:=[]} e:=by
 obtain⟨p,q,r,s,t,u,w⟩:=EJ h;refine bodyPost_ret (v:=gJ #[gU #[a,b,c,d,k,l,m],v]) (by simp[results,o,go_sem,h2,h3,p,q,r,s,t,u,w]) rfl n
def At6{w b:jD}{base g:Nat}{e:TypeId}{n o q r s t u:jL}(h:CB b g e [n,o,q,r,s,t,u])(v:Below base w b)(a:base<=g)(c d f i j k l:jL):
 ∃m,m=(((((((b.setCell (Φ g) c).setCell (Δ g 1) d).setCell (Δ g 2) f).setCell (Δ g 3) i).setCell (Δ g 4) j).setCell (Δ g 5) k).setCell (Δ g 6) l)/\CB m g e [c,d,f,i,j,k,l]/\
 Below base w m/\
 Kept b m (iC g):=
 ⟨_,rfl,((((((h.AX 0 c).AX 1 d).AX 2 f).AX 3 i).AX 4 j).AX 5 k).AX 6 l,
   ((((((v.setCell (p:=Φ g) a c).setCell (p:=Δ g 1) a d).setCell (p:=Δ g 2) a f).setCell (p:=Δ g 3) a i).setCell (p:=Δ g 4) a j).setCell (p:=Δ g 5) a k).setCell (p:=Δ g 6) a l,
   ((((((Kept.AX b g 0 c).trans' (Kept.AX _ g 1 d)).trans' (Kept.AX _ g 2 f)).trans' (Kept.AX _ g 3 i)).trans' (Kept.AX _ g 4 j)).trans' (Kept.AX _ g 5 k)).trans' (Kept.AX _ g 6 l)⟩
def zN(g:List Pl)(rest:List UInt8)(base:Nat)(w:jD)(e:Ending)(w':jD):Prop:=
 η w w'/\match CV g rest with
  |none=>e=gY (gJ #[Aqe,fU jw])
  |some a=>∃b c f d,e=gY (gJ #[gU #[b,c,f,d,fP gZ a.off,fP .u8 (a.label.toNat:Int),fP gZ a.word],fU jm])/\YW w' base (gU #[b,c,f,d]) a.nd
def H8{w:jD}{base c:Nat}{V:jL}{b:List Pl}{A:Option Addr}{rest:List UInt8}(B:OO w base V b)(av:b.length<=1000000)(az:∀aE∈b,aE.nd.pre.length<=1000)(S:Bs w A rest.length rest)(ba:rest.length<=1000000):
 Calls prog 85 #[V,fD A rest.length c] w (zN b rest base w):=by
 have r:CB (w.alloc (iy #[fD iD 0 0,fP ig 0,fD iD 0 0,fD iD 0 0,fP gZ 0,fP .u8 0,fP gZ 0] 176)) w.heap.size 176 [fD iD 0 0,fP ig 0,fD iD 0 0,fD iD 0 0,fP gZ 0,fP .u8 0,fP gZ 0]:=heap_alloc_new _ _;have C:η w (w.alloc (iy #[fD iD 0 0,fP ig 0,fD iD 0 0,fD iD 0 0,fP gZ 0,fP .u8 0,fP gZ 0] 176)):=(Below.refl _ _).alloc (Ae _) _;by_cases Q:b=[]
 ·subst Q;obtain⟨Av,P,aD⟩:∃Av P,V=fD Av 0 P:=by
   obtain⟨bi,aw,_⟩:=B;rcases aw.2 with⟨R,_⟩|⟨z,a4,a5,R,_⟩
   ·exact⟨_,_,R⟩
   ·exact⟨_,_,R⟩
  subst aD;have t:Hid (CV [] rest=iD):=Ac rfl;clear B S av;obtain⟨f0,f1,f2,f3,f4,f5,f6⟩:=At5 r;obtain⟨aF,aJ,aL,aM,aR,aV,aW⟩:=EJ r;go_enter func85,ntmps85
  go_wp2_with fail
  refine X8 rfl w.heap.size r (fU jw) rfl rfl ⟨C,?_⟩;rw[t.out];rfl
 ·obtain⟨z,P,rfl,a8,a7,aq,al⟩:=B.at Q;have a9:0<b.length:=VH.2 Q;obtain⟨a1,a2,a3,a6,G⟩:=al (b.length-1) O;have am:b.getLast?=iC (b[b.length-1]' O):=by rw[List.getLast?_eq_getElem?,Ah O]
  have ap:=Ac (az (b[b.length-1]' O) (List.getElem_mem _));generalize b[b.length-1]' O=a at*;have y:Hid (CV b rest=if a.nd.pre=rest then iC a else iD):=Ac (by rw[CV,am]);have t0:((b.length:Int)==0)=jw:=ζ O;obtain⟨q,an⟩:=ε (b.length-1);have bb:IntKind.i64.wrap ((b.length:Int) -1)=(q:Int):=(wrap64 _ O O).trans O;have bc:q<b.length:=O;have bd:(q:Int)<(b.length:Int):=O;obtain⟨d,e,f,m,g,n,j,H,T,U⟩:=G.nd;simp only[Value.agg.injEq]at j;simp at j;obtain⟨rfl,rfl,rfl,rfl⟩:=j;have ac:Hid (∀l v,[Ad d a.nd.pre.length e,fP ig (a.nd.val.toNat:Int),fD f a.nd.labels.length m,fD g a.nd.kids.length n,fP gZ a.off,fP .u8 (a.label.toNat:Int),fP gZ a.word][l]?=iC v->w.cell? (Δ z (7*q+l))=iC v):=Ac (by rw[an];exact G.cells);have ad:=Ac G.nd;have k:∀l v,[Ad d a.nd.pre.length e,fP ig (a.nd.val.toNat:Int),fD f a.nd.labels.length m,fD g a.nd.kids.length n,fP gZ a.off,fP .u8 (a.label.toNat:Int),fP gZ a.word][l]?=iC v->(w.alloc (iy #[fD iD 0 0,fP ig 0,fD iD 0 0,fD iD 0 0,fP gZ 0,fP .u8 0,fP gZ 0] 176)).cell? (Δ z (q*7+l))=iC v:=λl v ar=>by
   rw[C.cell (p:=Δ z (q*7+l)) aq,J3];exact ac l v ar
  have I:=k 0 _ rfl;have W:=k 1 _ rfl;have X:=k 2 _ rfl;have Y:=k 3 _ rfl;have Z:=k 4 _ rfl;have aa:=k 5 _ rfl;have ab:=k 6 _ rfl;rw[Nat.add_zero]at I;have L:=Ac r;have x:=Ac C;have ae:=Ac S;clear al am B G H T U an r k ac S C;go_enter func85,ntmps85
  go_wp2_with fail
  have i:=L.out.ξ ((Below.refl _ _).alloc (Ae _) (iy #[Ad d a.nd.pre.length e,fP ig (a.nd.val.toNat:Int),fD f a.nd.labels.length m,fD g a.nd.kids.length n,fP gZ a.off,fP .u8 (a.label.toNat:Int),fP gZ a.word] 176));have s:CB ((w.alloc (iy #[fD iD 0 0,fP ig 0,fD iD 0 0,fD iD 0 0,fP gZ 0,fP .u8 0,fP gZ 0] 176)).alloc (iy #[Ad d a.nd.pre.length e,fP ig (a.nd.val.toNat:Int),fD f a.nd.labels.length m,fD g a.nd.kids.length n,fP gZ a.off,fP .u8 (a.label.toNat:Int),fP gZ a.word] 176)) (w.heap.size+1) 176 [Ad d a.nd.pre.length e,fP ig (a.nd.val.toNat:Int),fD f a.nd.labels.length m,fD g a.nd.kids.length n,fP gZ a.off,fP .u8 (a.label.toNat:Int),fP gZ a.word]:=Ach _ _ _ _;have D:=x.alloc x.size (iy #[Ad d a.nd.pre.length e,fP ig (a.nd.val.toNat:Int),fD f a.nd.labels.length m,fD g a.nd.kids.length n,fP gZ a.off,fP .u8 (a.label.toNat:Int),fP gZ a.word] 176);clear I W X Y Z aa ab;generalize((w.alloc (iy #[fD iD 0 0,fP ig 0,fD iD 0 0,fD iD 0 0,fP gZ 0,fP .u8 0,fP gZ 0] 176)).alloc (iy #[Ad d a.nd.pre.length e,fP ig (a.nd.val.toNat:Int),fD f a.nd.labels.length m,fD g a.nd.kids.length n,fP gZ a.off,fP .u8 (a.label.toNat:Int),fP gZ a.word] 176))=ah at*;obtain⟨aX,be,aZ,bg,a0,bh,j,H,T,U⟩:=ad.out;simp only[Value.agg.injEq]at j;simp at j;obtain⟨⟨rfl,rfl⟩,⟨rfl,rfl⟩,⟨rfl,rfl⟩⟩:=j;refine(zM d A a.nd.pre.length rest.length e c a.nd.pre rest ah (Ω ap.out) O (CQ (own_below H D)).2 (ae.below D)).mono ?_;clear H T U;rintro j bj⟨rfl,F⟩;have E:=τ D (F.below ah.heap.size);replace i:=i.ξ (F.below _);replace s:=s.ξ (F.below _);clear D F ae;obtain⟨f0,f1,f2,f3,f4,f5,f6⟩:=At5 i;obtain⟨aF,aJ,aL,aM,aR,aV,aW⟩:=EJ i;obtain⟨I,W,X,Y,Z,aa,ab⟩:=EJ s;by_cases o:a.nd.pre=rest
  ·have t:Hid (CV b rest=iC a):=Ac (by rw[y.out,jM o]);have u:decide (a.nd.pre=rest)=jm:=decide_eq_true o;rw[u];clear y u o;have K:=Ac i;have M:=Ac E;clear i s E L x
   go_wp2_with fail
   obtain⟨ao,N,J,LZ,-⟩:=At6 K.out M.out (Ae _) (Ad d a.nd.pre.length e) (fP ig (a.nd.val.toNat:Int)) (fD f a.nd.labels.length m) (fD g a.nd.kids.length n) (fP gZ a.off) (fP .u8 (a.label.toNat:Int)) (fP gZ a.word);rw[<-N];refine X8 rfl w.heap.size J (fU jm) rfl rfl ⟨LZ,?_⟩;rw[t.out];exact⟨_,_,_,_,rfl,ad.below LZ⟩
  ·have t:Hid (CV b rest=iD):=Ac (by rw[y.out,ku o]);have u:decide (a.nd.pre=rest)=jw:=decide_eq_false o;rw[u];clear y u o;have K:=Ac i;have M:=Ac E;clear i s E L x I W X Y Z aa ab
   go_wp2_with fail
   obtain⟨ao,N,J,LZ,-⟩:=At6 K.out M.out (Ae _) (fD iD 0 0) (fP ig 0) (fD iD 0 0) (fD iD 0 0) (fP gZ 0) (fP .u8 0) (fP gZ 0);rw[<-N];refine X8 rfl w.heap.size J (fU jw) rfl rfl ⟨LZ,?_⟩;rw[t.out];rfl
def Ef(w w':jD):Prop:=w.heap.size<=w'.heap.size/\∀(g:Nat)(a:Array jL)(e:TypeId)(b:Nat×Nat),(e=5\/e=40\/e=174)->w.heap[g]?=iC (Obj.cells a e b)->w'.heap[g]?=w.heap[g]?
def Ef.refl(w:jD):Ef w w:=⟨Ae _,λ_ _ _ _ _ _=>rfl⟩
def Ef.of_below{w w':jD}(h:η w w'):Ef w w':=⟨h.size,λa _ _ _ _ b=>h.block a (AA.1 b).1⟩
def Ef.trans{a b c:jD}(h:Ef a b)(k:Ef b c):Ef a c:=
 ⟨Bq h.1 k.1,λg d e f j l=>by
  have i:=h.2 g d e f j l;exact(k.2 g d e f j (i.trans l)).trans i⟩
def Ef.Amy{w w':jD}{g:Nat}(h:Kept w w' (iC g))(j:∀(a:Array jL)(e:TypeId)(c:Nat×Nat),(e=5\/e=40\/e=174)->w.heap[g]?≠iC (Obj.cells a e c)):Ef w w':=
 ⟨h.1,λf a e c i d=>h.2 f (AA.1 d).1 (λb=>by injection b with b;subst b;exact j a e c i d)⟩
def Ef.own{w w':jD}{base k n:Nat}{e:TypeId}{v:jL}{xs:List jL}(h:Ef w w')(l:e=5\/e=40\/e=174)(d:w.ownsRow base e k v n xs):w'.ownsRow base e k v n xs:=by
 refine⟨d.1,?_⟩;rcases d.2 with a|⟨b,f,g,a,i,c,j⟩
 ·exact .inl a
 ·exact .inr ⟨b,f,g,a,i,(h.2 b _ _ _ l c).trans c,j⟩
def Ef.nd{w w':jD}{base:Nat}{v:jL}{x:Nd}(s:Ef w w')(h:YW w base v x):YW w' base v x:=by
 obtain⟨a,d,b,e,c,f,g,i,j,k⟩:=h;exact⟨a,d,b,e,c,f,g,s.own (.inl rfl) i,s.own (.inl rfl) j,s.own (.inr (.inl rfl)) k⟩
def Ef.box{w w':jD}{g:Nat}{xs:List jL}(s:Ef w w')(h:CB w g 174 xs):CB w' g 174 xs:=(s.2 g _ _ _ (.inr (.inr rfl)) h).trans h
def QA(w:jD)(A:Option Addr)(l:List UInt8):Prop:=
 Bs w A l.length l/\(∀a,A=iC a->∃(b:Nat)(c:Array jL)(d:Nat×Nat),a=(Φ b)/\w.heap[b]?=iC (Obj.cells c 5 d))/\(A=iD->l=[])
def QA.nil(w:jD):QA w iD []:=by
 refine⟨Rd.nil,?_,λ_=>rfl⟩;intro b a;cases a
def QA.keep{w w':jD}{A:Option Addr}{l:List UInt8}(h:QA w A l)(s:Ef w w'):QA w' A l:=by
 obtain⟨g,i,n⟩:=h;refine⟨⟨g.1,λr=>?_⟩,λj a=>?_,n⟩
 ·obtain⟨u,v,a,o,p⟩:=g.2 r;obtain⟨f,d,e,c,b⟩:=i _ a;injection c with k m
  subst k m;exact⟨_,_,a,Be o s.1,λt q=>(BI (w:=w) (s.2 _ _ _ _ (.inl rfl) b)).trans (p t q)⟩
 ·obtain⟨f,d,e,c,b⟩:=i j a;exact⟨f,d,e,c,(s.2 _ _ _ _ (.inl rfl) b).trans b⟩
def QA.cut{w w':jD}{A b:Option Addr}{l m:List UInt8}(h:QA w A l)(p:Rd w' b (l.length+m.length) (l.map bv++m.map bv))(o:η w w')(g:Ab4 w w' 5 A b m.length):QA w' b (l++m):=by
 refine⟨?_,λj a=>?_,λa=>?_⟩
 ·rw[AP];show Rd w' b _ ((l++m).map bv);rw[CE];exact p
 ·rcases g with⟨rfl,_⟩|⟨d,c,e,_,k⟩
  ·obtain⟨d,c,n,f,i⟩:=h.2.1 j a;exact⟨d,c,n,f,(o.block _ (AA.1 i).1).trans i⟩
  ·rw[e]at a;injection a with a
   exact⟨d,c,_,a.symm,k⟩
 ·rcases g with⟨rfl,f⟩|⟨d,c,e,_⟩
  ·rw[h.2.2 a,List.eq_nil_of_length_eq_zero f];rfl
  ·rw[e]at a;exact nomatch a
def itV(p:List UInt8×UInt64):List jL:=[fQ ⟨p.1.toArray⟩,fP ig (p.2.toNat:Int)]
structure Fg(w:jD)(base sb mb x:Nat)(items:List (List UInt8×UInt64))(met:List Int)(v:jL):Prop where
 box:CB w sb 189 [ptr0 x,v,.map (iC mb)]
 row:w.ownsRow base 115 2 v items.length (items.map itV).flatten
 map:Lr w mb (met.map λo=>(o,1))
 bs:base<=sb
 bm:base<=mb
 vs:v.ownBlock≠iC sb
 zO:met.Nodup
 rng:∀o∈met,0<=o/\o<=65536
 len:items.length<=met.length
def QB:∀(N:Nat)(l:List Int),l.Nodup->(∀a∈l,0<=a/\a<(N:Int))->l.length<=N
 |0,l,_,h=>by
  cases l with
  |nil=>simp
  |cons e j=>have:=h e (List.mem_cons_self ..);omega
 |N+1,l,c,h=>by
  by_cases d:(N:Int)∈l
  ·have g:=QB N (l.erase (N:Int)) (c.erase _) (λa b=>by
    have:=(c.mem_erase_iff).1 b;have:=h a this.2;omega)
   rw[List.length_erase_of_mem d]at g;omega
  ·have:=QB N l c (λa b=>by
    have i:=h a b;have:a≠(N:Int):=λf=>d (f▸b)
    omega)
   omega
section
variable{w w':jD}{base sb mb x:Nat}{items:List (List UInt8×UInt64)}{met:List Int}{v:jL}
def Fg.few(h:Fg w base sb mb x items met v):items.length<=65537:=
 Bq h.len (QB 65537 met h.zO (λo a=>Ω (h.rng o a)))
def Fg.sm(h:Fg w base sb mb x items met v):sb≠mb:=by
 intro c;have a:=h.box;have b:=h.map;unfold CB at a;unfold Lr at b;rw[c,b]at a;injection a with a
 cases a
def Fg.vm(h:Fg w base sb mb x items met v):v.ownBlock≠iC mb:=by
 intro b;rcases h.row.2 with⟨c,_⟩|⟨g,e,f,c,_,a,_⟩
 ·subst c;exact nomatch b
 ·subst c;simp only[AV,Option.some.injEq]at b;subst b;have d:=h.map;unfold Lr at d;rw[d]at a;injection a with a
  cases a
def Fg.below(h:Fg w base sb mb x items met v)(k:η w w'):Fg w' base sb mb x items met v:=
 ⟨h.box.ξ k,Ff h.row (Kept.of_below (r:=iC sb) k) (.inl (λa=>h.vs a.symm)),h.map.below k,h.bs,h.bm,h.vs,h.zO,h.rng,h.len⟩
def Fg.note(h:Fg w base sb mb x items met v){o:Int}(q:0<=o/\o<=65536)(n:o∉met):Fg (Eu w mb (I5 0 ((met++[o]).map λo=>(o,1))).toArray ((met++[o]).map λo=>(o,(1:Int))).length) base sb mb x items (met++[o]) v/\
 Ef w (Eu w mb (I5 0 ((met++[o]).map λo=>(o,1))).toArray ((met++[o]).map λo=>(o,(1:Int))).length)/\Below base w (Eu w mb (I5 0 ((met++[o]).map λo=>(o,1))).toArray ((met++[o]).map λo=>(o,(1:Int))).length):=by
 have p:∀(c:Array jL)(e:TypeId)(d:Nat×Nat),w.heap[mb]?≠iC (Obj.cells c e d):=λc e d a=>by
  have k:=h.map;unfold Lr at k;rw[k]at a;injection a with a
  cases a
 have b:=JC w mb (I5 0 ((met++[o]).map λo=>(o,1))).toArray ((met++[o]).map λo=>(o,(1:Int))).length;refine⟨⟨h.box.touch b h.sm,Gj h.row b (λj a e=>h.vm (by rw[a,e])),Ov _ _ _ _ h.map.lt,h.bs,h.bm,h.vs,?_,?_,?_⟩,⟨b.size,λj c e d _ a=>b.block j (AA.1 a).1 (λm=>p c e d (m▸a))⟩,b.below (LP (J5 h.bm h.map.lt)) (λs e=>e▸h.bm)⟩
 ·exact Dl.2 ⟨h.zO,GN.2 ⟨by simp,lD⟩,λi g r l=>by rw[BQ]at l;subst l;exact λe=>n (e▸g)⟩
 ·intro i g;rcases AB.1 g with f|f
  ·exact h.rng i f
  ·rw[BQ]at f;exact f▸q
 ·have:=h.len;simp;omega
def Fg.add(h:Fg w base sb mb x items met v)(p:List UInt8×UInt64)(H:items.length<met.length){c e:Nat}{a:jD}
 (z:a.ownsRow base 115 2 (fD (iC (Φ c)) (items.length+1) e) (items.length+1) ((items.map itV).flatten++itV p))(y:Below base w a)(f:Kept w a v.ownBlock)(A:v.ownBlock=iC c\/w.heap.size<=c):
 Fg (a.setCell (Δ sb 1) (fD (iC (Φ c)) (items.length+1) e)) base sb mb x (items++[p]) met (fD (iC (Φ c)) (items.length+1) e)/\
  Ef w (a.setCell (Δ sb 1) (fD (iC (Φ c)) (items.length+1) e))/\Below base w (a.setCell (Δ sb 1) (fD (iC (Φ c)) (items.length+1) e)):=by
 have B:=h.box.lt;have q:=h.map.lt;have o:c≠sb:=by
  rintro rfl;rcases A with b|b
  ·exact h.vs b
  ·omega
 have n:CB a sb 189 [ptr0 x,v,.map (iC mb)]:=(f.2 sb B (λb=>h.vs b.symm)).trans h.box;have r:a.heap[mb]?=w.heap[mb]?:=f.2 mb q (λb=>h.vm b.symm);have m:=Kept.AX a sb 1 (fD (iC (Φ c)) (items.length+1) e);have C:Ef w a:=by
  refine⟨f.1,λu s b t g i=>f.2 u (AA.1 i).1 (λj=>?_)⟩;rcases h.row.2 with⟨k,_⟩|⟨G,E,F,k,_,d,_⟩
  ·subst k;exact nomatch j
  ·subst k;simp only[AV,Option.some.injEq]at j;subst j;rw[i]at d;injection d with d
   injection d with _ l
   rw[l]at g;exact absurd g U
 have D:Ef a (a.setCell (Δ sb 1) (fD (iC (Φ c)) (items.length+1) e)):=Ef.Amy m (λs b t g i=>by
  have d:a.heap[sb]?=_:=n;rw[i]at d;injection d with d
  injection d with _ l
  rw[l]at g;exact absurd g U)
 refine⟨⟨n.AX 1 _,?_,?_,h.bs,h.bm,by simp[AV,o],h.zO,h.rng,by simp;omega⟩,C.trans D,y.setCell (p:=Δ sb 1) h.bs _⟩
 ·have:=Ff z m (.inl (by simp[AV,Ne.symm o]));simpa using this
 ·show(a.setCell _ _).heap[mb]?=_;rw[m.2 mb (Be q f.1) (λb=>h.sm (Option.some.inj b).symm),r];exact h.map
end
structure Lu(s:St)(l:List Lk):Prop where
 zO:(l.map (·.off)).Nodup
 at_:∀k∈l,0<=k.off/\k.off<=65536/\DD s k.off=1/\OB (wordsAt s.ws (k.off.toNat/8) 8)=iC k.rc/\ES l<=k.rc.stamp.toNat
def Lu.nil(s:St):Lu s []:=⟨lD,λ_ h=>nomatch h⟩
def Jt(l:List Lk)(k:Lk):ES (l++[k])=k.rc.stamp.toNat:=by
 unfold ES;rw[List.getLast?_append];rfl
def Lu.step{s:St}{l:List Lk}(h:Lu s l){off:Int}{r:Rc}(f:0<=off/\off<=65536)(n:DD s off=1)(e:OB (wordsAt s.ws (off.toNat/8) 8)=iC r)(t:r.stamp.toNat<ES l):Lu s (l++[⟨off,r⟩]):=by
 refine⟨?_,λk a=>?_⟩
 ·rw[CE];refine Dl.2 ⟨h.zO,by simp,λo m p d=>?_⟩;rw[List.map_singleton,BQ]at d;subst d;rintro rfl;obtain⟨k,a,g⟩:=Dk.1 m;obtain⟨_,_,_,b,c⟩:=h.at_ k a;rw[g,e]at b;injection b with b
  rw[<-b]at c;omega
 ·rw[Jt];rcases AB.1 a with a|a
  ·obtain⟨i,j,b,c,q⟩:=h.at_ k a;exact⟨i,j,b,c,by show r.stamp.toNat<=_;omega⟩
  ·rw[BQ]at a;subst a;exact⟨f.1,f.2,n,e,Ae _⟩
def Lu.few{s:St}{l:List Lk}(h:Lu s l):l.length<=65537:=by
 have:=QB 65537 (l.map (·.off)) h.zO (λe b=>by
  obtain⟨k,a,rfl⟩:=Dk.1 b;obtain⟨c,d,_⟩:=h.at_ k a;omega)
 rwa [CZ]at this
def jH{L:Nat}{s:St}{off:Int}(a:gI L s.sh)(e:s.tk.length=s.sh.BO)(g:L<=1024)(h:DD s off=1):0<=off/\off<=65536/\off=((8*(off.toNat/8):Nat):Int)/\off.toNat/8+8<=8*L:=by
 obtain⟨i,f,d,c,_,b⟩:=Wv (s:=s) (off:=off) (by rw[h];decide);rw[h]at c b;simp only[Bd]at c b;have:=a.data;have:=a.fits;have:=a.BO;rw[e]at d;omega
def Tryz.Amz:Ig prog 110 115 (gU #[fQ ⟨#[]⟩,fP ig 0]) 2 24:=⟨underlying110,by kernel_rfl,rfl⟩
def Tryz.NL:prog.underlying 187=iC (.map 3 3):=underlying187
def Tryz.nR(b:jD):(zeroValue 3).run prog b=.ok (fP gZ 0) b:=by
 have h:(prog.info? 3).map (·.zero)=iC (iC (fP gZ 0)):=by kernel_rfl
 cases a:prog.info? 3 with
 |none=>rw[a]at h;cases h
 |some c=>
  rw[a]at h;simp only[Option.map_some,Option.some.injEq]at h;simp[zeroValue,typeInfo,a,h]
def RF(r:Option (List (List UInt8×UInt64)×List Int))(base sb mb x:Nat)(w:jD)(e:Ending)(w':jD):Prop:=
 Below base w w'/\Ef w w'/\match r with
  |none=>e=gY (fP gZ 5)
  |some (a,b)=>e=gY (fP gZ 0)/\∃c,Fg w' base sb mb x a b c
section
variable{len:Mode}{w w':jD}{base sb mb x d p L:Nat}{s:St}{F:Nat->Prop}
def J6.past(h:J6 len w x d p L s F)(k:Below base w w')(hF:∀a,F a->a<base)(g:x<base)(f:0<base/\1<base):J6 len w' x d p L s F:=by
 have b:Touch (λa=>base<=a) w w':=⟨k.os,k.tape,k.output,k.size,λa _ e=>k.block a O⟩;exact⟨h.sys.keep b (λa c e=>Ω (hF a c)) O O,h.box.touch b O,h.out⟩
def jI{o:Int}:∀{l:List Int},o∈l->l.Nodup->∃a c,l=a++o::c/\o∉a
 |[],h,_=>by cases h
 |e::m,h,j=>by
  obtain⟨g,i⟩:=GN.1 j;rcases CG.1 h with rfl|d
  ·exact⟨[],m,rfl,by simp⟩
  ·obtain⟨a,c,f,k⟩:=jI d i;refine⟨e::a,c,by rw[f];rfl,λb=>?_⟩;rcases CG.1 b with rfl|b
   ·exact g d
   ·exact k b
def zQ(h:J6 len w x d p L s F)(_:∀k,F k->k<base){items:List (List UInt8×UInt64)}{met:List Int}{v:jL}(b:Fg w base sb mb x items met v)(f:Nat)(a:UInt64)(ahead:List UInt8)(A:Option Addr)(c:Nat)(g:FC s a=iD):
 Calls prog 137 #[ptr0 sb,fP ig (a.toNat:Int),fD A ahead.length c] w (RF (Ei s (f+1) a ahead (items,met)) base sb mb x w):=by
 have o:Hid (Ei s (f+1) a ahead (items,met)=iD):=Ac (by rw[Ei,g]);have j:=Ac (MQ h a);have q:=Ac g;have u:=b.box.p1;have l:base<=w.heap.size:=LP (J5 b.bs b.box.lt);clear h b g;go_enter func137,ntmps137
 go_wp2_with fail
 refine j.mono ?_;rintro r t⟨e,m⟩;rw[q.out]at m;subst m;have i:=Ac (e.mono l);have n:=Ac (Ef.of_below e);clear e j
 go_wp2_with fail
 go_ret;refine⟨i.alloc (Bq l i.size) _,n.trans (Ef.of_below ((Below.refl _ _).alloc (Ae _) _)),?_⟩;rw[o.out];rfl
def Aex(h:J6 len w x d p L s F)(_:∀D,F D->D<base){items:List (List UInt8×UInt64)}{met:List Int}{v:jL}(o:Fg w base sb mb x items met v)(f:Nat)(b:UInt64)(ahead:List UInt8)(A:Option Addr)(c:Nat)(al:QA w A ahead)(bl:ahead.length<=c)(bo:ahead.length<=33)(g:Nd)(G:FC s b=iC g)(Q:Bf b∈met):
 Calls prog 137 #[ptr0 sb,fP ig (b.toNat:Int),fD A ahead.length c] w (RF (Ei s (f+1) b ahead (items,met)) base sb mb x w):=by
 have aW:Hid (Ei s (f+1) b ahead (items,met)=iD):=Ac (by rw[Ei,G];simp only;rw[jM (.inl (by simpa using Q))]);have ab:=Ac (MQ h b);have aX:=Ac G;have ac:=Ac o;have br:IntKind.i64.wrap (b.toNat:Int)=Bf b:=rfl;have bp:=(MR G).1;have bg:=o.box.p1;have P:base<=w.heap.size:=LP (J5 o.bs o.box.lt);obtain⟨u,H,ap,aq⟩:=jI Q o.zO;have Z:=Ac ap;have C:Hid (∀aE∈u.map (λa=>(a,(1:Int))),aE.1≠Bf b):=Ac (λaE a6=>by
  obtain⟨a,a5,rfl⟩:=Dk.1 a6;exact λe=>aq (e▸a5))
 have W:=Ac al;generalize Bf b=l at*;clear h o G Q ap aq al;go_enter func137,ntmps137
 go_wp2_with fail
 refine ab.mono ?_;rintro e be⟨an,ar⟩;rw[aX.out]at ar;obtain⟨bx,rfl,a4⟩:=ar;obtain⟨I,ah,aL,a2,aM,a3,rfl,aD,bc,bd⟩:=a4;obtain⟨i,am,J,S⟩:=newB be 174 [fD I g.pre.length ah,fP ig (g.val.toNat:Int),fD aL g.labels.length a2,fD aM g.kids.length a3];have m:η w i:=τ an J;have k:=ac.below m;have n:Lr i mb (u.map (λa=>(a,(1:Int)))++(l,1)::H.map (λa=>(a,(1:Int)))):=by
  have:=k.map;rw[Z.out]at this;simpa using this
 have aw:=Tu Tryz.NL underlying3 i mb _ _ l 1 n C.out;have R:=Amd Tryz.NL underlying3 i mb _ _ l 1 2 n C.out;obtain⟨j,E⟩:=ε (Eu i mb (I5 0 (u.map (λa=>(a,(1:Int)))++(l,2)::H.map (λa=>(a,(1:Int))))).toArray (u.map (λa=>(a,(1:Int)))++(l,2)::H.map (λa=>(a,(1:Int)))).length);rw[<-E]at R;have t3:Touch (λD=>D=mb) i j:=E▸JC _ _ _ _;have az:Lr j mb (u.map (λa=>(a,(1:Int)))++(l,2)::H.map (λa=>(a,(1:Int)))):=by rw[E];exact Ov _ _ _ _ n.lt
 have t:Ef i j:=⟨t3.size,λN bj e bk _ r=>t3.block N (AA.1 r).1 (λM=>by
  unfold Lr at n;rw[M,n]at r;injection r with r
  cases r)⟩
 have V:Below base i j:=t3.below (Bq P m.size) (λbt e=>e▸k.bm);have T:=t.box S;have X:=(W.keep (Ef.of_below m)).keep t;have av:Rd j I g.pre.length (g.pre.map bv):=(CQ (t.own (.inl rfl) (own_below aD J))).2;have ad:CB j sb 189 [ptr0 x,v,.map (iC mb)]:=k.box.touch t3 k.sm;clear E;have y:=k.box.cell 0;have z:=k.box.cell 2;simp only[Ag,Am]at y z;rw[am]at aw R y z;clear bg ab am
 go_wp2_with fail
 obtain⟨a8,a9,ba,bb,-⟩:=CS T;have Y:=Ac ((m.mono P).trans V);have aZ:=Ac ((Ef.of_below m).trans t);have aa:=Ac az;have ae:=Ac ad;have B:=Ac X;have aJ:=Ac av;clear aw R y z an J m k n t3 t V S T X av aD bc bd az ad
 go_region_law(refine Lm rfl (.tmp 42) (.tmp 44) 22 rfl Tryz.I4 A ahead.length (ahead.map bv) (by simp[Act.eval]) (by exact B.1) (λa1 e=>by obtain⟨N,_,_,M,_⟩:=B.2.1 a1 e;exact⟨N,M⟩) (λe=>by rw[B.2.2 e];rfl) I g.pre.length ah (g.pre.map bv) (by simp[Act.eval]) (by exact aJ.out) (Jk _) O U ?_;intro bh bi aF bq a7 ao a0)
 all_goals(have q:η j aF:=((Dr.drew j).below _).trans ao)
 all_goals(have bw:=Tu Tryz.NL underlying3 aF mb _ _ l 2 (aa.below q) C.out)
 all_goals(have K:=ae.out.ξ q)
 all_goals(have y:=K.cell 0)
 all_goals(have z:=K.cell 2)
 all_goals(simp only[Ag,Am]at y z)
 all_goals(have aR:=Ac (Y.trans (q.mono (Bq P (by have:=Y.size;exact this)))))
 all_goals(have aV:=Ac (aZ.trans (Ef.of_below q)))
 all_goals(clear q ao a0 a7 K aa ae B aJ a8 a9 ba bb W C Z ac)
 all_goals(go_wp2_with fail)
 all_goals(go_ret)
 all_goals(refine⟨aR.out,aV.out,?_⟩)
 all_goals(rw[aW.out])
 all_goals rfl
end
def wrC(x:Wr):List jL:=[fQ x.key,fQ x.text,fU x.gone]
def Gf(l:List Wr):List jL:=(l.map wrC).flatten
def OT:∀(l:List Wr),(Gf l).length=l.length*3
 |[]=>rfl
 |b::a=>by
  have:=OT a;simp only[Gf,BM,LQ,AP,List.length_cons]at this⊢;rw[this];simp[wrC];omega
def FI(w:jD)(G:Nat->Prop)(v:jL)(s:List Wr):Prop:=∃A a,v=fD A s.length a/\s.length<=a/\KT w G A (s.length*3) (Gf s)
def FI.nil{w:jD}{G:Nat->Prop}:FI w G (fD iD 0 0) []:=⟨iD,0,rfl,Ae _,KT.nil⟩
def FI.moved{w w':jD}{G G':Nat->Prop}{v:jL}{s:List Wr}(h:FI w G v s)(m:AL G G' w w'):FI w' G' v s:=by
 obtain⟨A,a,b,c,d⟩:=h;exact⟨A,a,b,c,d.moved m⟩
def FI.below{w w':jD}{G:Nat->Prop}{v:jL}{s:List Wr}(h:FI w G v s)(k:η w w'):FI w' G v s:=h.moved (AL.of_below k)
def FI.mono{w:jD}{F G:Nat->Prop}{v:jL}{s:List Wr}(h:FI w G v s)(k:∀a,a<w.heap.size->F a->G a):FI w F v s:=by
 obtain⟨A,b,c,d,e⟩:=h;exact⟨A,b,c,d,e.mono k⟩
def FI.at{w:jD}{G:Nat->Prop}{v:jL}{s:List Wr}(h:FI w G v s)(k:Nat)(n:k<s.length):∃a b d,v=fD (iC (Δ a b)) s.length d/\s.length<=d/\a<w.heap.size/\¬G a/\
 w.cell? (Δ a (b+k*3))=iC (fQ s[k].key)/\w.cell? (Δ a (b+k*3+1))=iC (fQ s[k].text)/\w.cell? (Δ a (b+k*3+2))=iC (fU s[k].gone):=by
 obtain⟨A,d,f,j,o,g⟩:=h;obtain⟨a,b,rfl,i,l⟩:=o.2 O;have e:∀c,c<3->w.cell? (Δ a (b+k*3+c))=(wrC s[k])[c]?:=λc m=>by
  rw[TW,l (k*3+c) O];exact flat_get wrC 3 (λ_=>rfl) s k c n m
 exact⟨a,b,d,f,j,i,g O _ rfl,e 0 U,e 1 U,e 2 U⟩
def FI.slice{w:jD}{G:Nat->Prop}{v:jL}{s:List Wr}(h:FI w G v s):∃A a,v=fD A s.length a:=by
 obtain⟨A,a,b,_⟩:=h;exact⟨A,a,b⟩
def Tryz.jJ:Ig prog 73 100 (gU #[fQ ⟨#[]⟩,fQ ⟨#[]⟩,fU jw]) 3 40:=⟨underlying73,by kernel_rfl,rfl⟩
def OU(x:Wr):jL:=gU #[fQ x.key,fQ x.text,fU x.gone]
def QC(x:Wr)(w:jD)(h1:x.key.size<=4294967296)(h2:x.text.size<=4294967296):Calls prog 139 #[OU x] w λp w'=>p=gY (fU (Du x))/\η w w':=by
 obtain⟨b,a,c⟩:=x;simp only[OU]at h1 h2⊢;obtain⟨u,l,m,j⟩:=newB w 100 [fQ b,fQ a,fU c];obtain⟨r,s,t⟩:=j.p3;have d:=Ac m;rw[l]at r s t d;have k:=bu a;have o:=Ac k;clear j m l k;by_cases i:16<b.size
 ·have t1:decide ((16:Int)<(b.size:Int))=jm:=decide_eq_true O;have f:Hid (Du ⟨b,a,c⟩=jw):=Ac (by
   unfold Du;rw[show decide (b.size<=16)=jw from decide_eq_false O];rfl)
  clear i;go_enter func139,ntmps139
  go_wp2_with fail
  go_ret;exact⟨by rw[f.out];rfl,d.out⟩
 ·have t1:decide ((16:Int)<(b.size:Int))=jw:=decide_eq_false O;by_cases n:40<a.size
  ·have t2:decide ((40:Int)<(a.size:Int))=jm:=decide_eq_true O;have f:Hid (Du ⟨b,a,c⟩=jw):=Ac (by
    unfold Du;rw[show decide (a.size<=40)=jw from decide_eq_false O,Bool.and_false];rfl)
   clear i n;go_enter func139,ntmps139
   go_wp2_with fail
   go_ret;exact⟨by rw[f.out];rfl,d.out⟩
  ·have t2:decide ((40:Int)<(a.size:Int))=jw:=decide_eq_false O;have g:Hid (Du ⟨b,a,c⟩=(!c||(a.toList==[]))):=Ac (by
    unfold Du;rw[o.out,show decide (b.size<=16)=jm from decide_eq_true O,show decide (a.size<=40)=jm from decide_eq_true O];rfl)
   clear i n;cases c with
   |false=>
    go_enter func139,ntmps139
    go_wp2_with fail
    go_ret;exact⟨by rw[g.out];rfl,d.out⟩
   |true=>
    have q:∀e:List UInt8,(e==[])=e.isEmpty:=λe=>by cases e<;>rfl
    rw[q]at g;go_enter func139,ntmps139
    go_wp2_with fail
    go_ret;exact⟨by rw[g.out];rfl,d.out⟩
def bW(l:List Wr):∀b∈Gf l,b.oneCell'=jm:=by
 intro b a;simp only[Gf,List.mem_flatten,Dk]at a;obtain⟨_,⟨x,_,rfl⟩,a⟩:=a;simp only[wrC,CG,List.not_mem_nil,or_false]at a;rcases a with rfl|rfl|rfl<;>rfl
def WG(a b:List Wr):Gf (a++b)=Gf a++Gf b:=by simp[Gf]
def Aey{w:jD}{base g k:Nat}{e:TypeId}(b:CB w g e [])(a:base<=g):w.ownsRow base e k (fD (iC (Φ g)) 0 0) 0 []:=by
 refine⟨by simp,.inr ⟨g,0,#[],rfl,a,b,Ae _,by decide,by simp,by simp⟩⟩
def WH{w:jD}{G:Nat->Prop}{base n:Nat}{v:jL}{s:List Wr}(h:w.ownsRow base 100 3 v n (Gf s))(c:s.length=n)(i:∀b,base<=b->b<w.heap.size->¬G b):FI w G v s:=by
 subst c;obtain⟨A,d,rfl,j,k⟩:=own_rowk h;refine⟨A,d,rfl,j,k,λc l e=>?_⟩;subst e;rcases h.2 with⟨a,_⟩|⟨p,m,o,a,f,g,_⟩
 ·simp only[Value.slice.injEq]at a;exact absurd a.1 Θ
 ·simp only[Value.slice.injEq,Option.some.injEq]at a;rw[a.1];exact i _ f (AA.1 g).1
def Oy{w:jD}{G:Nat->Prop}{v:jL}{s:List Wr}(h:FI w G v s)(g:s.length<=100000):
 Calls prog 81 #[v] w λa w'=>∃i,a=gY i/\w'.ownsRow w.heap.size 100 3 i s.length (Gf s)/\η w w':=by
 obtain⟨A,d,rfl,y,b,e⟩:=h;have t:=λm=>Lib.run_eql_slice_nil (P:=prog) m 73 100 A s.length d 0 0 underlying73
 cases A with
 |none=>
  have r:s=[]:=by
   by_cases a:s=[]
   ·exact a
   ·obtain⟨u,z,o,_⟩:=b.2 (Ω (VH.2 a));cases o
  subst r;simp only[List.length_nil]at t;clear b e;go_enter func81,ntmps81
  go_wp2_with fail
  go_ret;exact⟨_,rfl,⟨by simp[Gf],.inl ⟨rfl,rfl⟩⟩,Below.refl _ _⟩
 |some n=>
  have l:=Ac b;have j:=Ac g;have f:η w (w.alloc (iy #[] 100)):=(Below.refl _ _).alloc (Ae _) _;have c:=Ac f;have k:Hid ((w.alloc (iy #[] 100)).ownsRow w.heap.size 100 3 (fD (iC (Φ w.heap.size)) 0 0) 0 []):=Ac (Aey (heap_alloc_new _ _) (Ae _));clear f b e g;go_enter func81,ntmps81
  go_wp2_with(at_builtin;refine Gm rfl (.tmp 5) (.tmp 6) 73 rfl Tryz.jJ U w.heap.size (fD (iC (Φ w.heap.size)) 0 0) 0 [] rfl k.out (iC n) s.length d (Gf s) rfl (Rd.below l.out c.out) (bW s) (Ω j.out) U Θ ?_;intro B w' q p x)
  go_ret;exact⟨_,rfl,by simpa using q,c.trans p⟩
