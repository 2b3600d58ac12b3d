import Derived.Test.YtekhjimghoibfaaGreatDoorI10
set_option linter.defProp false
set_option maxHeartbeats 32000000
set_option maxRecDepth 100000
open List renaming length_drop->AU,length_take->Em,getD_eq_getElem?_getD->Bo,getElem?_eq_getElem->Ae,length_map->BX,getElem?_take->Dj,map_cons->Ci,flatten_cons->Lh,getElem?_append_left->DU,getElem?_append_right->Eg,length_append->AY,mem_map->BM,mem_cons->Ea,length_pos_iff->zF,map_append->Dc,nodup_append->CJ,nodup_cons->H9,nodup_nil->UE,mem_singleton->BG,mem_append->AL,getElem?_cons_zero->Ag,getElem?_cons_succ->AB
open Nat renaming testBit_two_pow->Abg,mul_comm->Hq,le_refl->Ad,zero_le->BB,succ_mul->Aqb,add_assoc->SC,lt_of_lt_of_le->BI,le_trans->Bi,le_of_lt->Il,lt_of_le_of_lt->Ju
open Go.Lib renaming hid->Aa
open Go.Value renaming int->Aw,slice->Ac,ownBlock->Ba
open Array renaming getElem?_eq_some_iff->AA
open Go.World renaming cell?_of_block->Bh
namespace Go.Proofs.YtekhjimghoibfaaGreatDoor
open Go.RowKit
open Go.Proofs.Tryz
def Au8:Value:=.agg #[.int .u64 0,.int .u64 0,.bool false,.string ⟨#[]⟩]
def xI(l:List UInt64)(w:World)(e:Ending)(w':World):Prop:=
 η w w'/\match Lt l with
  |none=>e=.returned (.tuple #[Au8,.bool false])
  |some a=>e=.returned (.tuple #[rcV a,.bool true])
def Yz{h:Ending->World->Prop}{e:World}{f:Array Value}{i:Func}(l:i.results= #[.cell 2 94,.tmp 3])(g:Nat){a b c d:Value}(j:CQ e g 94 [a,b,c,d])(v:Value)(h2:f[2]?=some (Az g))(h3:f[3]?=some v)
 (k:h (.returned (.tuple #[.agg #[a,b,c,d],v])) e):bodyPost prog i h Exit.ret {tmps:=f,defers:=[]} e:=by
 obtain⟨m,n,o,p,f0,f1,f2,f3⟩:=CO j;have q:=run_underlying (P:=prog) underlying94;refine bodyPost_ret (v:=.tuple #[.agg #[a,b,c,d],v]) (by simp[results,l,go_sem,h2,h3,m,n,o,p]) rfl k
def QP(l:List UInt64)(m k:Nat):List UInt8:=(leBytes (l.drop 3)).take k++List.replicate (m-k) 0
def gJ(l:List UInt64)(m k:Nat)(b:l.length=8)(c:m<=40)(a:k<=m):(QP l m k).length=m:=by
 unfold QP;have:=leBytes_length (l.drop 3);simp at this;simp;omega
def xJ(l:List UInt64)(m k:Nat)(e:l.length=8)(g:m<=40)(f:k<m)(h3:3+k/8<l.length):(QP l m k).set k (leB l[3+k/8] (k%8))=QP l m (k+1):=by
 have b:=leBytes_length (l.drop 3);rw[AU,e]at b;have a:=Ji (l.drop 3) (k/8) (k%8) (by rw[AU];omega) O;rw[show 8*(k/8)+k%8=k by omega,List.getElem_drop]at a;unfold QP;rw[List.set_append_right _ _ (by rw[Em];omega),Em,Nat.min_eq_left O,Nat.sub_self];obtain⟨d,c⟩:∃d,m-k=d+1:=⟨m-k-1,O⟩;rw[c,show m-(k+1)=d by omega,List.replicate_succ,List.set_cons_zero,List.take_add_one,a];simp
def Au9(n:Nat)(e:n<18446744073709551616):(bits BinOp.and .u64 (n:Int) 256 !=0)=decide (n/256%2=1):=by
 have c:=u64_and_nat n 256 e U;rw[show((256:Nat):Int)=256 from rfl]at c;rw[c];have d:n&&&256=if n.testBit 8 then 256 else 0:=by
  apply Nat.eq_of_testBit_eq;intro f;rw[Nat.testBit_and,show 256=2^8 from rfl,Abg];by_cases b:8=f
  ·subst b;cases n.testBit 8
   ·rfl
   ·decide
  ·rw[decide_eq_false b,Bool.and_false];split
   ·rw[Abg,decide_eq_false b]
   ·simp
 rw[d,Nat.testBit_eq_decide_div_mod_eq];by_cases a:n/2^8%2=1
 ·rw[if_pos (decide_eq_true a),decide_eq_true (by simpa using a)];rfl
 ·rw[if_neg (by rw[decide_eq_false a];exact Bool.false_ne_true),decide_eq_false (by simpa using a)];rfl
def byte_of(x:UInt64)(a:Nat):(x.toNat:Int)/2^(a*8)%256=((leB x a).toNat:Int):=by
 have:=oC x a;rw[Hq 8 a]at this;exact this
def Acv(l:List UInt64)(A:Option Addr)(c:Nat)(w:World)(_:8<=c)(m:Ws w A 8 l):Calls prog 68 #[.slice A 8 c] w (xI l w):=by
 have z:=m.len;obtain⟨co,F,I,rfl,bg,an⟩:=m.at (show 0<8 by decide);obtain⟨e,aw,az,ac⟩:=Fz w 94 [.int .u64 0,.int .u64 0,.bool false,.string ⟨#[]⟩];obtain⟨g,G⟩:∃n,n=l[0].toNat:=⟨_,rfl⟩;have bN:g<18446744073709551616:=G▸UInt64.toNat_lt _;have bb:(l.getD 0 0).toNat=g:=by rw[G,Bo,Ae co];rfl
 rw[<-G]at an;have cB:=Aa G;have D:=Aa bb;clear G bb;have d0:e.cell? (Δ F I)=some (.int .u64 (g:Int)):=by have:=(az.cell (p:=Δ F (I+0)) bg).trans an;simpa using this
 have am:=Aa aw;have a2:=Aa az;have L:=Aa ac;obtain⟨ct,cv,cw,cx,f0,f1,f2,f3⟩:=CO ac;rw[aw]at d0 ct cv cw cx f0 f1 f2 f3;clear az ac aw;by_cases cF:40<g/65536
 ·have t1:decide ((40:Int)<(g:Int)/65536)=true:=decide_eq_true O;have q:Hid (Lt l=none):=Aa (by unfold Lt;rw[if_neg (by rintro⟨_,m⟩;rw[D.out]at m;omega)]);go_enter func68,ntmps68
  go_wp2_with fail
  rw[<-am.out];refine Yz rfl w.heap.size L.out (.bool false) rfl rfl ⟨a2.out,?_⟩;rw[q.out];rfl
 ·have t1:decide ((40:Int)<(g:Int)/65536)=false:=decide_eq_false O;obtain⟨b,bl⟩:=ε (g/65536);have t:b<=40:=O;have bm:∀e:World,(Instr.makeSlice 23 (.int .u64 ((g:Int)/65536)) (.int .u64 ((g:Int)/65536))).run prog e=.ok (.slice (some (Φ e.heap.size)) b b) (e.alloc (.cells (madeCells (Aw .u8 0).cells (b*1)) 5)):=λe=>by
   obtain⟨cm,cd,cj,ck,cl⟩:=info_parts Tryz.Ia.hi;have k:(g:Int)/65536=(b:Int):=O;rw[k];have:=run_make (P:=prog) (w:=e) 23 5 cm (.int .u8 0) underlying23 cd cj .u64 .u64 (b:Int) (b:Int) O O (by rw[cl];omega) O;rw[ck]at this;simpa using this
  obtain⟨a7,V⟩:=ε (e.alloc (.cells (madeCells (Aw .u8 0).cells (b*1)) 5));have aD:=bm e;rw[<-V]at aD;obtain⟨h,H⟩:=ε e.heap.size;rw[<-H]at aD;have cb:e.heap.size=w.heap.size+1:=by rw[am.out];simp
  have a1:CQ a7 h 5 ((QP l b 0).map bv):=by
   have k:(QP l b 0).map bv=(madeCells (Aw .u8 0).cells (b*1)).toList:=by rw[Qg];simp[QP]
   rw[k];unfold CQ;rw[V,H,Array.toArray_toList];exact heap_alloc_new _ _
  have bc:Below h e a7:=by rw[V,H];exact(Below.refl _ _).alloc (Ad _) _
  have bR:=Aa a1;have bX:=Aa bc;have M:=Aa bl;have a4:Hid (h=w.heap.size+1):=Aa O;have cz:=Aa H;rw[am.out]at aD;clear a1 bc V bm bl H cb;go_enter func68,ntmps68
  go_wp2_with fail
  go_loopw [27](λaL wr=>∃a:Nat,a<=b/\aL=.int .i64 (a:Nat)/\CQ wr h 5 ((QP l b a).map bv)/\Below h e wr)(λaL _=>b-(intOf aL).toNat)
  case atStart=>exact⟨0,BB _,rfl,bR.out,bX.out⟩
  case round=>
   obtain⟨a,cI,rfl,bp,aB⟩:=hrel;have W:=Aa bp;have Q:=Aa aB;have J:=Aa (a2.out.trans (aB.mono (Ω a4.out)));clear bp aB;by_cases ch:a<b
   ·have ce:3+a/8<8:=O;obtain⟨ci,cC,cK,ao,_,cc⟩:=(m.below J.out).at ce;injection ao with ao
    injection ao with b4 b7
    subst b4 b7;have cg:=gJ l b a z t O;obtain⟨cL,cJ⟩:∃v,wr.cell? (Δ h a)=some v:=⟨_,W.out.has (i:=a) (by rw[BX];omega)⟩;have cH:=W.out.frozen a;have aM:=Aa (byte_of l[3+a/8] (a%8));have aR:Hid (CQ (wr.setCell (Δ h a) (.int .u8 ((leB l[3+a/8] (a%8)).toNat:Int))) h 5 ((QP l b (a+1)).map bv)):=Aa (by
     rw[<-xJ l b a z t ch ci,List.map_set];exact W.out.AZ a _)
    have a3:Hid (Below h e (wr.setCell (Δ h a) (.int .u8 ((leB l[3+a/8] (a%8)).toNat:Int)))):=Aa (Q.out.setCell (p:=Δ h a) (Ad _) _);obtain⟨x,bq⟩:∃x,l[3+a/8]=x:=⟨_,rfl⟩;rw[bq]at cc aM aR a3;clear bq cg
    go_wp2_with fail
    rw[aM.out];go_roundw
    case rel=>exact⟨a+1,O,by go_num,aR.out,a3.out⟩
    case measure=>simp[intOf];omega
   ·have cf:a=b:=O;subst cf;obtain⟨cp,cD,cA,ap,_,a9⟩:=(m.below J.out).at (show 1<8 by decide);injection ap with ap
    injection ap with b5 b6
    subst b5 b6;obtain⟨cq,cE,cy,aq,_,ba⟩:=(m.below J.out).at (show 2<8 by decide);injection aq with aq
    injection aq with b8 b9
    subst b8 b9;have b3:wr.cell? (Δ F I)=some (.int .u64 (g:Int)):=by have:=(J.out.cell (p:=Δ F (I+0)) bg).trans an;simpa using this
    obtain⟨d,aE⟩:∃d:ByteArray,d=⟨((leBytes (l.drop 3)).take a).toArray⟩:=⟨_,rfl⟩;have av:QP l a a=(leBytes (l.drop 3)).take a:=by simp[QP]
    have ar:Bs wr (some (Φ h)) a ((leBytes (l.drop 3)).take a):=by
     have:=W.out.rd;rw[av,BX]at this;have k:((leBytes (l.drop 3)).take a).length=a:=by rw[<-av];exact gJ l a a z t (Ad _)
     rw[k]at this;exact this
    have be:η wr wr.drew:=(Dr.drew wr).below _;have bd:η wr (wr.alloc (.cells #[.int .u64 0,.int .u64 0,.bool false,.string ⟨#[]⟩] 94)).drew:=((Below.refl _ _).alloc (Ad _) _).trans ((Dr.drew _).below _);have bh:=LD (P:=prog) underlying23 underlying5 underlying9 (ar.below be) a;have bi:=LD (P:=prog) underlying23 underlying5 underlying9 (ar.below bd) a;rw[<-aE]at bh bi;clear be bd;obtain⟨f,bk⟩:∃f,(bits BinOp.and .u64 (g:Int) 256 !=0)=f:=⟨_,rfl⟩;obtain⟨i,aG⟩:∃x,l[1]=x:=⟨_,rfl⟩;obtain⟨j,aH⟩:∃x,l[2]=x:=⟨_,rfl⟩;rw[aG]at a9;rw[aH]at ba;have bV:=Aa aG;have bW:=Aa aH;have bS:=Aa bk;have a5:=Aa aE;clear aG aH aE av ar
    go_wp2_with fail
    go_region
    all_goals(obtain⟨E,S⟩:=ε ((wr.alloc (.cells #[.int .u64 (i.toNat:Int),.int .u64 (j.toNat:Int),.bool f,.string d] 94)).drew))
    all_goals(have af:CQ E wr.heap.size 94 [.int .u64 (i.toNat:Int),.int .u64 (j.toNat:Int),.bool f,.string d]:=by rw[S];exact heap_alloc_new _ _)
    all_goals(have ab:η wr E:=by rw[S];exact((Below.refl _ _).alloc (Ad _) _).trans ((Dr.drew _).below _))
    all_goals(have a8:=τ J.out ab)
    all_goals(have a6:CQ E w.heap.size 94 _:=(L.out.below Q.out (Ω a4.out)).below ab (Ψ Q.out.size L.out.lt))
    all_goals(have cG:w.heap.size<wr.heap.size:=Ψ Q.out.size L.out.lt)
    all_goals(have al:=Aa (gG ⟨i,j,f,d⟩ E (by show d.size<=_;have ca:d.size=((leBytes (l.drop 3)).take a).length:=(by rw[a5.out];rfl);rw[ca,Em];omega)))
    all_goals(rw[<-S])
    all_goals(unfold rcV at al)
    all_goals(obtain⟨u0,u1,u2,u3,_,_,_,_⟩:=CO af)
    all_goals(have ah:Hid (Ud l=⟨i,j,f,d⟩):=Aa (by
     have b0:l.getD 1 0=i:=by rw[Bo,Ae cp];exact bV.out
     have b1:l.getD 2 0=j:=by rw[Bo,Ae cq];exact bW.out
     have b2:decide (g/256%2=1)=f:=by rw[<-bS.out];exact(Au9 g bN).symm
     unfold Ud;rw[b0,b1,D.out,b2,<-M.out,<-a5.out]))
    all_goals(have cs:=Aa af)
    all_goals(have bT:=Aa a6)
    all_goals(have bO:=Aa a8)
    all_goals(clear af a6 a8 ab S b3 a9 ba bh bi bk)
    all_goals(go_wp2_with fail)
    all_goals(refine al.out.mono ?_)
    all_goals(rintro k bx⟨R,s⟩)
    all_goals(have K:=τ bO.out R)
    all_goals(have N:=bT.out.ξ R)
    all_goals(have ad:=cs.out.ξ R)
    all_goals(cases u:DN ⟨i,j,f,d⟩)
    all_goals(rw[u]at s)
    all_goals(have Y:=Aa N)
    all_goals(have Z:=Aa K)
    all_goals(have cn:=Aa ad)
    all_goals(clear al u0 u1 u2 u3 R)
    all_goals first
     |(replace s:k=.returned (.tuple #[.slice none 0 0,.bool false]):=s
       subst s;have q:Hid (Lt l=none):=Aa (by unfold Lt;rw[if_pos ⟨z,by rw[D.out,<-M.out];exact t⟩,ah.out,u];simp);obtain⟨bA,bB,bE,bL,br,bs,bt,bw⟩:=CO N;clear u N ad K
       go_wp2_with fail
       have C:=(((Y.out.AZ 0 (.int .u64 0)).AZ 1 (.int .u64 0)).AZ 2 (.bool false)).AZ 3 (.string ⟨#[]⟩);have L6:=(((Z.out.setCell (p:=Φ w.heap.size) (Ad _) (.int .u64 0)).setCell (p:=Δ w.heap.size 1) (Ad _) (.int .u64 0)).setCell (p:=Δ w.heap.size 2) (Ad _) (.bool false)).setCell (p:=Δ w.heap.size 3) (Ad _) (.string ⟨#[]⟩);refine Yz rfl w.heap.size C (.bool false) rfl rfl ⟨L6,?_⟩;rw[q.out];rfl)
     |(replace s:∃T,k=.returned (.tuple #[.slice (some (Φ T)) 8 8,.bool true])/\bx.ownsRow E.heap.size 43 1 (.slice (some (Φ T)) 8 8) 8 ((CW ⟨i,j,f,d⟩).map wv):=s
       obtain⟨T,rfl,bo⟩:=s;have bj:=Qn (some (Φ T)) (some (Δ F I)) 8 8 8 c (CW ⟨i,j,f,d⟩) l bx U U (CV bo).2 (m.below K);have B:=Aa bj;clear bj bo ad N K;by_cases y:CW ⟨i,j,f,d⟩=l
       ·have q:Hid (Lt l=some ⟨i,j,f,d⟩):=Aa (by unfold Lt;rw[if_pos ⟨z,by rw[D.out,<-M.out];exact t⟩,ah.out,if_pos ⟨u,y⟩]);rw[decide_eq_true y]at B;clear y u
        go_wp2_with fail
        refine B.out.mono ?_;rintro k cr⟨rfl,o⟩;have r:=Y.out.ξ (o.below _);have a0:=cn.out.ξ (o.below _);have aa:=Aa (Z.out.trans (o.below w.heap.size));obtain⟨bA,bB,bE,bL,br,bs,bt,bw⟩:=CO r;obtain⟨u0,u1,u2,u3,_,_,_,_⟩:=CO a0;have X:=Aa r;clear r a0 o B
        go_wp2_with fail
        have C:=(((X.out.AZ 0 (.int .u64 (i.toNat:Int))).AZ 1 (.int .u64 (j.toNat:Int))).AZ 2 (.bool f)).AZ 3 (.string d);have L6:=(((aa.out.setCell (p:=Φ w.heap.size) (Ad _) (.int .u64 (i.toNat:Int))).setCell (p:=Δ w.heap.size 1) (Ad _) (.int .u64 (j.toNat:Int))).setCell (p:=Δ w.heap.size 2) (Ad _) (.bool f)).setCell (p:=Δ w.heap.size 3) (Ad _) (.string d);refine Yz rfl w.heap.size C (.bool true) rfl rfl ⟨L6,?_⟩;rw[q.out];rfl
       ·have q:Hid (Lt l=none):=Aa (by unfold Lt;rw[if_pos ⟨z,by rw[D.out,<-M.out];exact t⟩,ah.out,if_neg (λm=>y m.2)]);rw[decide_eq_false y]at B;clear y u
        go_wp2_with fail
        refine B.out.mono ?_;rintro k cr⟨rfl,o⟩;have r:=Y.out.ξ (o.below _);have aa:=Aa (Z.out.trans (o.below w.heap.size));obtain⟨bA,bB,bE,bL,br,bs,bt,bw⟩:=CO r;have X:=Aa r;clear r o B
        go_wp2_with fail
        have C:=(((X.out.AZ 0 (.int .u64 0)).AZ 1 (.int .u64 0)).AZ 2 (.bool false)).AZ 3 (.string ⟨#[]⟩);have L6:=(((aa.out.setCell (p:=Φ w.heap.size) (Ad _) (.int .u64 0)).setCell (p:=Δ w.heap.size 1) (Ad _) (.int .u64 0)).setCell (p:=Δ w.heap.size 2) (Ad _) (.bool false)).setCell (p:=Δ w.heap.size 3) (Ad _) (.string ⟨#[]⟩);refine Yz rfl w.heap.size C (.bool false) rfl rfl ⟨L6,?_⟩;rw[q.out];rfl)
def DR{w:World}{base k n:Nat}{e:TypeId}{v:Value}{xs:List Value}(a:w.ownsRow base e k v n xs):∃A c,v=.slice A n c/\n<=c/\Rd w A (n*k) xs:=by
 rcases a.2 with⟨b,f⟩|⟨d,m,h,b,f,g,i,o,p,j⟩
 ·subst f;exact⟨none,0,b,Ad _,a.1,λl=>O⟩
 ·refine⟨_,_,b,i,a.1,λl=>⟨d,0,rfl,(AA.1 g).1,λr q=>?_⟩⟩;rw[cell_of_row w d _ h _ (0,0) g,<-j,Dj,if_pos O];simp
def flat_get{g:Type}(f:g->List Value)(m:Nat)(a:∀b,(f b).length=m):∀(l:List g)(k i:Nat)(d:k<l.length),i<m->((l.map f).flatten)[k*m+i]?=(f l[k])[i]?
 |b::e,0,i,_,c=>by
  rw[Ci,Lh,Nat.zero_mul,Nat.zero_add,DU (by rw[a];exact c)];rfl
 |b::e,k+1,i,d,c=>by
  rw[Ci,Lh,Eg (by rw[a,Aqb];omega),a,show(k+1)*m+i-m=k*m+i by rw[Aqb];omega];exact flat_get f m a e k i (by simpa using d) c
def lkC(k:Lk):List Value:=[.int .i64 k.off,.int .u64 (k.rc.stamp.toNat:Int),.int .u64 (k.rc.next.toNat:Int),.bool k.rc.gone,.string k.rc.text]
def kJ(l:List Lk):List Value:=(l.map lkC).flatten
def pY(l:List Lk)(a:Lk):kJ (l++[a])=kJ l++lkC a:=by simp[kJ]
def LkR(w:World)(A:Option Addr)(l:List Lk):Prop:=Rd w A (l.length*5) (kJ l)
def LkR.below{w w':World}{A:Option Addr}{l:List Lk}(a:LkR w A l)(k:η w w'):LkR w' A l:=Rd.below a k
def LkR.at{w:World}{A:Option Addr}{l:List Lk}(f:LkR w A l)(k:Nat)(j:k<l.length):∃a b,A=some (Δ a b)/\a<w.heap.size/\w.cell? (Δ a (b+k*5))=some (.int .i64 l[k].off)/\w.cell? (Δ a (b+k*5+1))=some (.int .u64 (l[k].rc.stamp.toNat:Int))/\
 w.cell? (Δ a (b+k*5+2))=some (.int .u64 (l[k].rc.next.toNat:Int))/\w.cell? (Δ a (b+k*5+3))=some (.bool l[k].rc.gone)/\w.cell? (Δ a (b+k*5+4))=some (.string l[k].rc.text):=by
 obtain⟨a,b,e,g,h⟩:=f.2 O;have d:∀c,c<5->w.cell? (Δ a (b+k*5+c))=(lkC l[k])[c]?:=λc i=>by
  rw[SC,h (k*5+c) O];exact flat_get lkC 5 (λ_=>rfl) l k c j i
 exact⟨a,b,e,g,d 0 U,d 1 U,d 2 U,d 3 U,d 4 U⟩
def Vs{w:World}{base:Nat}{v:Value}{l:List Lk}(b:w.ownsRow base 96 5 v l.length (kJ l)):∃A a,v=.slice A l.length a/\l.length<=a/\LkR w A l:=DR b
section
variable{w w':World}{d p L:Nat}{s:St}{F:Nat->Prop}
def Ej.size{len:Ef}(a:Ej len w d p L s F):Calls prog 21 #[Az d] w λb w'=>b=.returned (.int .i64 ((L*64:Nat):Int))/\w=w':=by
 obtain⟨g,f,n,e,c,own,a,_⟩:=a;exact a.dev.size a.L1
def Ej.pos{len:Ef}(a:Ej len w d p L s F):0<L/\L<=1024/\dH L s.sh/\s.tk.length=s.sh.BQ:=by
 obtain⟨f,e,n,c,b,own,a,_⟩:=a;exact⟨a.L0,a.L1,IL a.shape,by rw[a.OA,a.bV]⟩
def gK{len:Ef}(a:Ej len w d p L s F):Calls prog 66 #[Az d,Az p] w λc w'=>c=.returned (.bool false)/\w=w':=by
 have f:=a.pos.1;have t0:(((L*64:Nat):Int)==0)=false:=ζ O;have b:=a.size;generalize L*64=g at b t0;have e:=Aa b;clear b a;go_enter func66,ntmps66
 go_wp2_with fail
 refine e.out.mono ?_;rintro c h⟨rfl,rfl⟩
 go_wp2_with fail
 go_ret;exact⟨rfl,rfl⟩
end
def Jo(w:World)(G:Nat->Prop)(A:Option Addr)(n:Nat)(xs:List Value):Prop:=Rd w A n xs/\(0<n->∀a,A=some a->¬G a.block)
section
variable{w w':World}{G G':Nat->Prop}{A:Option Addr}{n:Nat}{xs:List Value}
def Jo.moved(j:Jo w G A n xs)(m:AP G G' w w'):Jo w' G' A n xs:=by
 obtain⟨⟨k,f⟩,g⟩:=j;refine⟨⟨k,λb=>?_⟩,λb p a=>?_⟩
 ·obtain⟨d,i,a,c,h⟩:=f b;exact⟨d,i,a,BI c m.touch.size,λo l=>(Bh (w:=w) (m.touch.block d c (g b _ a))).trans (h o l)⟩
 ·obtain⟨d,i,e,c,h⟩:=f b;rw[e]at a;injection a with a
  subst a;exact m.out c (g b _ e)
def Jo.below(a:Jo w G A n xs)(k:η w w'):Jo w' G A n xs:=a.moved (AP.of_below k)
def Jo.mono{F:Nat->Prop}(c:Jo w G A n xs)(k:∀a,a<w.heap.size->F a->G a):Jo w F A n xs:=⟨c.1,λe h b g=>by
 obtain⟨a,j,d,f,i⟩:=c.1.2 e;rw[d]at b;injection b with b
 subst b;exact c.2 e _ d (k _ f g)⟩
def Jo.take(c:Jo w G A n xs)(k:Nat)(o:k<=n):Jo w G A k (xs.take k):=by
 obtain⟨⟨m,d⟩,e⟩:=c;refine⟨⟨by rw[Em];omega,λi=>?_⟩,λi=>e O⟩;obtain⟨a,l,b,f,g⟩:=d O;exact⟨a,l,b,f,λj h=>by rw[g j O,Dj,if_pos h]⟩
def Jo.cut{b off c:Nat}(g:Jo w G (some (Δ b off)) n xs)(k:Nat)(t:k<=n)(r:n<=c):Jo w G (if c=k then some (Δ b off)else some (Δ b (off+k))) (n-k) (xs.drop k):=by
 obtain⟨⟨q,h⟩,i⟩:=g;by_cases u:k=n
 ·refine⟨⟨by rw[AU];omega,λd=>O⟩,λd=>O⟩
 ·rw[if_neg O];refine⟨⟨by rw[AU];omega,λd=>?_⟩,λd o a=>?_⟩
  ·obtain⟨p,v,a,j,l⟩:=h O;injection a with a
   injection a with e f
   subst e f;exact⟨_,_,rfl,j,λm s=>by rw[SC,l (k+m) O,List.getElem?_drop]⟩
  ·injection a with a
   subst a;exact i O (Δ b off) rfl
def Jo.KR{base c:Nat}{e:TypeId}(f:w.ownsRow base e 1 (.slice A n c) n xs)(i:∀d,base<=d->d<w.heap.size->¬G d):Jo w G A n xs:=by
 refine⟨(CV f).2,λo j a=>?_⟩;rcases f.2 with⟨b,_⟩|⟨m,k,l,b,g,h,_⟩
 ·simp only[Value.slice.injEq]at b;rw[b.1]at a;cases a
 ·simp only[Value.slice.injEq]at b;rw[b.1]at a;injection a with a
  subst a;exact i _ g (AA.1 h).1
def Jo.nil:Jo w G A 0 []:=⟨Rd.nil,λa=>absurd a O⟩
end
def ZK(w:World)(G:Nat->Prop)(a b c d:Value)(e:Nd):Prop:=
 ∃f i g j h k,a=.slice f e.pre.length i/\b=.int .u64 (e.val.toNat:Int)/\c=.slice g e.labels.length j/\d=.slice h e.kids.length k/\e.pre.length<=i/\
  Jo w G f e.pre.length (e.pre.map bv)/\Jo w G g e.labels.length (e.labels.map bv)/\Jo w G h e.kids.length (e.kids.map wv)
def ZK.moved{w w':World}{G G':Nat->Prop}{a b c d:Value}{e:Nd}(q:ZK w G a b c d e)(m:AP G G' w w'):ZK w' G' a b c d e:=by
 obtain⟨f,i,g,j,h,k,l,n,o,p,u,r,s,t⟩:=q;exact⟨f,i,g,j,h,k,l,n,o,p,u,r.moved m,s.moved m,t.moved m⟩
def ZK.Ar6{w:World}{G:Nat->Prop}{base:Nat}{a b c d:Value}{h:Nd}(o:Yh w base (.agg #[a,b,c,d]) h)(f:∀b,base<=b->b<w.heap.size->¬G b):ZK w G a b c d h:=by
 obtain⟨i,l,j,m,k,n,e,g,p,q⟩:=o;simp only[Value.agg.injEq]at e;simp at e;obtain⟨rfl,rfl,rfl,rfl⟩:=e;exact⟨i,l,j,m,k,n,rfl,rfl,rfl,rfl,(CV g).1,Jo.KR g f,Jo.KR p f,Jo.KR q f⟩
def ZL{L:Nat}{s s1:St}{c off:Nat}(e:dH L s.sh)(f:s.tk.length=s.sh.BQ)(i:c=1\/c=2)(a:CP s c=some (off,s1)):∃d,off=8*d/\d+8*Bf c<=8*L:=by
 unfold CP at a;split at a
 ·cases a
 ·rename_i n j;split at a
  ·cases a
  ·rename_i g b;injection a with a
   injection a with h l
   have k:=(Q5 j).1;have m:g<Bz c:=by
    unfold KP at b;split at b
    ·exact jT b
    ·cases b
   unfold CY at h;have:=e.data;have:=e.fits;rw[f]at k;rcases i with rfl|rfl
   ·refine⟨off/8,?_,?_⟩<;>simp only[Bf,Bz]at* <;>omega
   ·refine⟨off/8,?_,?_⟩<;>simp only[Bf,Bz]at* <;>omega
def SS(x:Nd):Dl x=1\/Dl x=2:=by unfold Dl;split<;>simp
def xM(x:Nd):(DT x).length=8*Bf (Dl x):=by
 rw[Fb];unfold Dl;split<;>rfl
def Iu(a:Jm)(n:Nd):(DD a n).1.made.length<=a.made.length+1:=by
 unfold DD;split
 ·simp
 ·split
  ·simp
  ·split;split
   ·split;split<;>simp
   ·simp
def OQ(a:Jm)(n:Nd)(c:UInt8)(b:UInt64)(e:Int):(Gj a n c b e).1.made.length<=a.made.length+1:=by
 unfold Gj;split
 ·simp
 ·split
  ·exact Iu _ _
  ·simp
def LZ:∀(f:Nat)(a:Jm)(l:List UInt8)(b:UInt64),(JA f a l b).1.made.length<=a.made.length+f
 |0,a,l,b=>by simp[JA]
 |f+1,a,l,b=>by
  unfold JA;split
  ·have:=Iu a ⟨l,b,[],[]⟩;omega
  ·have c:=LZ f a (l.drop 16) b;split;rename_i g h d e;rw[e]at c;have:=OQ g ⟨l.take 15,0,[],[]⟩ (l.getD 15 0) h d;simp only at c;omega
def wrC(x:Wr):List Value:=[.string x.key,.string x.text,.bool x.gone]
def FQ(l:List Wr):List Value:=(l.map wrC).flatten
def Nc:∀(l:List Wr),(FQ l).length=l.length*3
 |[]=>rfl
 |b::a=>by
  have:=Nc a;simp only[FQ,Ci,Lh,AY,List.length_cons]at this⊢;rw[this];simp[wrC];omega
def H7(w:World)(G:Nat->Prop)(v:Value)(s:List Wr):Prop:=∃A a,v=.slice A s.length a/\s.length<=a/\Jo w G A (s.length*3) (FQ s)
def H7.nil{w:World}{G:Nat->Prop}:H7 w G (.slice none 0 0) []:=⟨none,0,rfl,Ad _,Jo.nil⟩
def H7.moved{w w':World}{G G':Nat->Prop}{v:Value}{s:List Wr}(c:H7 w G v s)(m:AP G G' w w'):H7 w' G' v s:=by
 obtain⟨A,a,b,d,e⟩:=c;exact⟨A,a,b,d,e.moved m⟩
def H7.below{w w':World}{G:Nat->Prop}{v:Value}{s:List Wr}(a:H7 w G v s)(k:η w w'):H7 w' G v s:=a.moved (AP.of_below k)
def H7.mono{w:World}{F G:Nat->Prop}{v:Value}{s:List Wr}(d:H7 w G v s)(k:∀a,a<w.heap.size->F a->G a):H7 w F v s:=by
 obtain⟨A,b,c,e,f⟩:=d;exact⟨A,b,c,e,f.mono k⟩
def H7.at{w:World}{G:Nat->Prop}{v:Value}{s:List Wr}(g:H7 w G v s)(k:Nat)(n:k<s.length):∃a b d,v=.slice (some (Δ a b)) s.length d/\s.length<=d/\a<w.heap.size/\¬G a/\
 w.cell? (Δ a (b+k*3))=some (.string s[k].key)/\w.cell? (Δ a (b+k*3+1))=some (.string s[k].text)/\w.cell? (Δ a (b+k*3+2))=some (.bool s[k].gone):=by
 obtain⟨A,d,f,j,o,h⟩:=g;obtain⟨a,b,rfl,i,l⟩:=o.2 O;have e:∀c,c<3->w.cell? (Δ a (b+k*3+c))=(wrC s[k])[c]?:=λc m=>by
  rw[SC,l (k*3+c) O];exact flat_get wrC 3 (λ_=>rfl) s k c n m
 exact⟨a,b,d,f,j,i,h O _ rfl,e 0 U,e 1 U,e 2 U⟩
def H7.slice{w:World}{G:Nat->Prop}{v:Value}{s:List Wr}(c:H7 w G v s):∃A a,v=.slice A s.length a:=by
 obtain⟨A,a,b,_⟩:=c;exact⟨A,a,b⟩
def Tryz.qc:JE prog 38 53 (.agg #[.string ⟨#[]⟩,.string ⟨#[]⟩,.bool false]) 3 40:=⟨underlying38,by kernel_rfl,rfl⟩
def VR(x:Wr):Value:=.agg #[.string x.key,.string x.text,.bool x.gone]
def PO(x:Wr)(w:World)(h1:x.key.size<=4294967296)(h2:x.text.size<=4294967296):Calls prog 42 #[VR x] w λo w'=>o=.returned (.bool (Dx x))/\η w w':=by
 obtain⟨b,a,c⟩:=x;simp only[VR]at h1 h2⊢;obtain⟨t,k,l,i⟩:=Fz w 53 [.string b,.string a,.bool c];obtain⟨q,r,s⟩:=i.p3;have d:=Aa l;rw[k]at q r s d;have j:=ZJ a;have n:=Aa j;clear i l k j;by_cases h:16<b.size
 ·have t1:decide ((16:Int)<(b.size:Int))=true:=decide_eq_true O;have f:Hid (Dx ⟨b,a,c⟩=false):=Aa (by
   unfold Dx;rw[show decide (b.size<=16)=false from decide_eq_false O];rfl)
  clear h;go_enter func42,ntmps42
  go_wp2_with fail
  go_ret;exact⟨by rw[f.out];rfl,d.out⟩
 ·have t1:decide ((16:Int)<(b.size:Int))=false:=decide_eq_false O;by_cases m:40<a.size
  ·have t2:decide ((40:Int)<(a.size:Int))=true:=decide_eq_true O;have f:Hid (Dx ⟨b,a,c⟩=false):=Aa (by
    unfold Dx;rw[show decide (a.size<=40)=false from decide_eq_false O,Bool.and_false];rfl)
   clear h m;go_enter func42,ntmps42
   go_wp2_with fail
   go_ret;exact⟨by rw[f.out];rfl,d.out⟩
  ·have t2:decide ((40:Int)<(a.size:Int))=false:=decide_eq_false O;have g:Hid (Dx ⟨b,a,c⟩=(!c||(a.toList==[]))):=Aa (by
    unfold Dx;rw[n.out,show decide (b.size<=16)=true from decide_eq_true O,show decide (a.size<=40)=true from decide_eq_true O];rfl)
   clear h m;cases c with
   |false=>
    go_enter func42,ntmps42
    go_wp2_with fail
    go_ret;exact⟨by rw[g.out];rfl,d.out⟩
   |true=>
    have p:∀e:List UInt8,(e==[])=e.isEmpty:=λe=>by cases e<;>rfl
    rw[p]at g;go_enter func42,ntmps42
    go_wp2_with fail
    go_ret;exact⟨by rw[g.out];rfl,d.out⟩
def ZM(l:List Wr):∀b∈FQ l,b.oneCell'=true:=by
 intro b a;simp only[FQ,List.mem_flatten,BM]at a;obtain⟨_,⟨x,_,rfl⟩,a⟩:=a;simp only[wrC,Ea,List.not_mem_nil,or_false]at a;rcases a with rfl|rfl|rfl<;>rfl
def ZN(a b:List Wr):FQ (a++b)=FQ a++FQ b:=by simp[FQ]
def Acy{w:World}{base g k:Nat}{e:TypeId}(b:CQ w g e [])(a:base<=g):w.ownsRow base e k (.slice (some (Φ g)) 0 0) 0 []:=by
 refine⟨by simp,.inr ⟨g,0,#[],rfl,a,b,Ad _,by decide,by simp,by simp⟩⟩
def qf{w:World}{G:Nat->Prop}{base n:Nat}{v:Value}{s:List Wr}(c:w.ownsRow base 53 3 v n (FQ s))(d:s.length=n)(i:∀b,base<=b->b<w.heap.size->¬G b):H7 w G v s:=by
 subst d;obtain⟨A,e,rfl,j,k⟩:=DR c;refine⟨A,e,rfl,j,k,λd l f=>?_⟩;subst f;rcases c.2 with⟨a,_⟩|⟨p,m,o,a,g,h,_⟩
 ·simp only[Value.slice.injEq]at a;exact absurd a.1 Θ
 ·simp only[Value.slice.injEq,Option.some.injEq]at a;rw[a.1];exact i _ g (AA.1 h).1
def PQ{w:World}{G:Nat->Prop}{v:Value}{s:List Wr}(o:H7 w G v s)(g:s.length<=100000):
 Calls prog 43 #[v] w λa w'=>∃h,a=.returned h/\w'.ownsRow w.heap.size 53 3 h s.length (FQ s)/\η w w':=by
 obtain⟨A,d,rfl,y,b,e⟩:=o;have t:=λl=>Lib.run_eql_slice_nil (P:=prog) l 38 53 A s.length d 0 0 underlying38
 cases A with
 |none=>
  have r:s=[]:=by
   by_cases a:s=[]
   ·exact a
   ·obtain⟨u,z,n,_⟩:=b.2 (Ω (zF.2 a));cases n
  subst r;simp only[List.length_nil]at t;clear b e;go_enter func43,ntmps43
  go_wp2_with fail
  go_ret;exact⟨_,rfl,⟨by simp[FQ],.inl ⟨rfl,rfl⟩⟩,Below.refl _ _⟩
 |some m=>
  have k:=Aa b;have i:=Aa g;have f:η w (w.alloc (.cells #[] 53)):=(Below.refl _ _).alloc (Ad _) _;have c:=Aa f;have j:Hid ((w.alloc (.cells #[] 53)).ownsRow w.heap.size 53 3 (.slice (some (Φ w.heap.size)) 0 0) 0 []):=Aa (Acy (heap_alloc_new _ _) (Ad _));clear f b e g;go_enter func43,ntmps43
  go_wp2_with(at_builtin;refine IJ rfl (.tmp 5) (.tmp 6) 38 rfl Tryz.qc U w.heap.size (.slice (some (Φ w.heap.size)) 0 0) 0 [] rfl j.out (some m) s.length d (FQ s) rfl (Rd.below k.out c.out) (ZM s) (Ω i.out) U Θ ?_;intro B w' q p x)
  go_ret;exact⟨_,rfl,by simpa using q,c.out.trans p⟩
def xN(A B:Option Addr)(n m c d:Nat)(a b:List UInt8)(w:World)(F:n<=4294967296)(_hm:m<=4294967296)(l:Bs w A n a)(o:Bs w B m b):
 Calls prog 144 #[.slice A n c,.slice B m d] w λg w'=>g=.returned (.bool (decide (a=b)))/\Dr w w':=by
 have D:=l.len;have E:=o.len;by_cases u:n=m
 ·subst u;have t1:((n:Int)!=(n:Int))=false:=by simp
  go_enter func144,ntmps144;go_wp2
  go_loopw [13](λk wr=>∃f:Nat,f<=n/\k=.int .i64 f/\(∀e(h1:e<a.length)(h2:e<b.length),e<f->a[e]=b[e])/\Dr w wr)(λk _=>n-(intOf k).toNat)
  case atStart=>exact⟨0,BB _,rfl,λe _ _ s=>absurd s O,Dr.refl _⟩
  case round=>
   obtain⟨f,C,rfl,j,M,rfl⟩:=hrel;by_cases q:f<n
   ·obtain⟨I,p,K,rfl,G,x⟩:=l.at q;obtain⟨J,L,v,rfl,H,y⟩:=o.at q;by_cases h:a[f]=b[f]
    ·have t2:(((a[f].toNat:Int))!=(b[f].toNat:Int))=false:=by simp[h]
     have r:Hid (∀e(h1:e<a.length)(h2:e<b.length),e<f+1->a[e]=b[e]):=Aa λe h1 h2 z=>by
      by_cases g:e=f
      ·subst g;exact h
      ·exact j e h1 h2 O
     clear j h;go_wp2
     go_quiet(fail)
     go_wp2;go_roundw
     case rel=>exact⟨f+1,O,by go_num,r.out,by first|exact Dr.one _ _|exact Dr.two _ _ _⟩
     case measure=>simp[intOf];omega
    ·have t2:(((a[f].toNat:Int))!=(b[f].toNat:Int))=true:=by
      rw[bne_iff_ne];intro g;exact h (UInt8.toNat_inj.1 O)
     have i:Hid (decide (a=b)=false):=Aa (by rw[decide_eq_false_iff_not];intro g;subst g;exact h rfl);clear j h;go_wp2
     go_quiet(fail)
     go_wp2;go_ret;exact⟨by rw[i.out];rfl,by first|exact Dr.one _ _|exact Dr.two _ _ _⟩
   ·have t:f=n:=O;subst t;have i:Hid (decide (a=b)=true):=Aa (by
     rw[decide_eq_true_iff];apply List.ext_getElem O;intro e h1 h2;exact j e h1 h2 O)
    clear j;go_wp2;go_ret;exact⟨by rw[i.out];rfl,Dr.one _ _⟩
 ·have t1:((n:Int)!=(m:Int))=true:=by simp;omega
  have i:Hid (decide (a=b)=false):=Aa (by rw[decide_eq_false_iff_not];intro g;subst g;omega);go_enter func144,ntmps144;go_wp2;go_ret;exact⟨by rw[i.out];rfl,Dr.refl _⟩
def Aaj(w:World)(o:Obj)(xs:List Value)(a:TypeId):CQ ((w.alloc o).alloc (.cells xs.toArray a)) (w.heap.size+1) a xs:=by
 have:=heap_alloc_new (w.alloc o) (.cells xs.toArray a);rw[show(w.alloc o).heap.size=w.heap.size+1 by simp]at this;exact this
def Yh.below{w w':World}{base:Nat}{v:Value}{x:Nd}(h:Yh w base v x)(k:η w w'):Yh w' base v x:=by
 obtain⟨a,d,b,e,c,f,g,i,j,l⟩:=h;exact⟨a,d,b,e,c,f,g,own_below i k,own_below j k,own_below l k⟩
def PlV.len{w:World}{base:Nat}{a:List Value}{p:Pl}(b:PlV w base a p):a.length=7:=by
 obtain⟨c,e,f,d,rfl,_⟩:=b;rfl
def WA.get{w:World}{base:Nat}:∀(vs:List (List Value))(d:List Pl),WA w base vs d->∀b(a:b<d.length),∃e,PlV w base e d[b]/\∀c,c<7->vs.flatten[7*b+c]?=e[c]?
 |[],[],_,b,f=>by simp at f
 |[],_::_,a,_,_=>a.elim
 |_::_,[],a,_,_=>a.elim
 |g::vs,p::d,a,0,f=>⟨g,a.1,λc h=>by
   have:=a.1.len;rw[Lh,DU O];simp⟩
 |g::vs,p::d,a,b+1,f=>by
   obtain⟨e,i,j⟩:=WA.get vs d a.2 b (by simpa using f);refine⟨e,by simpa using i,λc h=>?_⟩;have:=a.1.len;rw[Lh,Eg O,<-j c h];congr 1;omega
structure Aak(w:World)(base:Nat)(g i:Nat)(pl:Pl)(a b c d:Value):Prop where
 cells:∀j u,[a,b,c,d,.int .i64 pl.off,.int .u8 (pl.label.toNat:Int),.int .i64 pl.word][j]?=some u->w.cell? (Δ g (7*i+j))=some u
 nd:Yh w base (.agg #[a,b,c,d]) pl.nd
def Oz.at{w:World}{base:Nat}{v:Value}{b:List Pl}(o:Oz w base v b)(p:b≠[]):∃a e,v=.slice (some (Φ a)) b.length e/\b.length<=e/\base<=a/\a<w.heap.size/\
 ∀c(hi:c<b.length),∃f g l d,Aak w base a c b[c] f g l d:=by
 obtain⟨A,y,z⟩:=o;rcases y.2 with⟨_,h⟩|⟨a,m,n,q,h,i,r,C,D,s⟩
 ·exact absurd (List.length_eq_zero_iff.1 h) p
 ·refine⟨a,m,q,r,h,(AA.1 i).1,λc hi=>?_⟩;obtain⟨B,⟨f,g,e,d,rfl,x⟩,t⟩:=WA.get A b z c hi;refine⟨f,g,e,d,⟨λk E j=>?_,x⟩⟩;have u:k<7:=by have:=(List.getElem?_eq_some_iff.1 j).1;simpa using this
  rw[cell_of_row w a _ n _ (0,0) i,<-j,<-t k u,<-s,Dj,if_pos O];simp
def An6:Value:=.agg #[.slice none 0 0,.int .u64 0,.slice none 0 0,.slice none 0 0,.int .i64 0,.int .u8 0,.int .i64 0]
def Ar7{w:World}{g:Nat}{e:TypeId}{a b c d k l m:Value}(f:CQ w g e [a,b,c,d,k,l,m]):w.frozen? (Φ g)=false/\w.frozen? (Δ g 1)=false/\w.frozen? (Δ g 2)=false/\w.frozen? (Δ g 3)=false/\w.frozen? (Δ g 4)=false/\w.frozen? (Δ g 5)=false/\w.frozen? (Δ g 6)=false:=
 ⟨f.frozen 0,f.frozen 1,f.frozen 2,f.frozen 3,f.frozen 4,f.frozen 5,f.frozen 6⟩
def WE{h:Ending->World->Prop}{e:World}{f:Array Value}{i:Func}(o:i.results= #[.cell 4 197,.tmp 5])(g:Nat){a b c d k l m:Value}(j:CQ e g 197 [a,b,c,d,k,l,m])(v:Value)(h2:f[4]?=some (Az g))(h3:f[5]?=some v)
 (n:h (.returned (.tuple #[.agg #[a,b,c,d,k,l,m],v])) e):bodyPost prog i h Exit.ret {tmps:=f,defers:=[]} e:=by
 obtain⟨p,q,r,s,t,u,w⟩:=EN j;have x:=run_underlying (P:=prog) underlying197;refine bodyPost_ret (v:=.tuple #[.agg #[a,b,c,d,k,l,m],v]) (by simp[results,o,go_sem,h2,h3,p,q,r,s,t,u,w]) rfl n
def Ar8{w b:World}{base g:Nat}{e:TypeId}{m n o q r s t:Value}(u:CQ b g e [m,n,o,q,r,s,t])(v:Below base w b)(a:base<=g)(c d f h i j k:Value):
 ∃l,l=(((((((b.setCell (Φ g) c).setCell (Δ g 1) d).setCell (Δ g 2) f).setCell (Δ g 3) h).setCell (Δ g 4) i).setCell (Δ g 5) j).setCell (Δ g 6) k)/\CQ l g e [c,d,f,h,i,j,k]/\
 Below base w l/\
 Kept b l (some g):=
 ⟨_,rfl,((((((u.AZ 0 c).AZ 1 d).AZ 2 f).AZ 3 h).AZ 4 i).AZ 5 j).AZ 6 k,
   ((((((v.setCell (p:=Φ g) a c).setCell (p:=Δ g 1) a d).setCell (p:=Δ g 2) a f).setCell (p:=Δ g 3) a h).setCell (p:=Δ g 4) a i).setCell (p:=Δ g 5) a j).setCell (p:=Δ g 6) a k,
   ((((((Kept.AZ b g 0 c).trans' (Kept.AZ _ g 1 d)).trans' (Kept.AZ _ g 2 f)).trans' (Kept.AZ _ g 3 h)).trans' (Kept.AZ _ g 4 i)).trans' (Kept.AZ _ g 5 j)).trans' (Kept.AZ _ g 6 k)⟩
def xO(g:List Pl)(rest:List UInt8)(base:Nat)(w:World)(e:Ending)(w':World):Prop:=
 η w w'/\match CX g rest with
  |none=>e=.returned (.tuple #[An6,.bool false])
  |some a=>∃b c f d,e=.returned (.tuple #[.agg #[b,c,f,d,.int .i64 a.off,.int .u8 (a.label.toNat:Int),.int .i64 a.word],.bool true])/\Yh w' base (.agg #[b,c,f,d]) a.nd
def Hw{w:World}{base c:Nat}{U:Value}{b:List Pl}{A:Option Addr}{rest:List UInt8}(z:Oz w base U b)(av:b.length<=1000000)(az:∀pl∈b,pl.nd.pre.length<=1000)(R:Bs w A rest.length rest)(bd:rest.length<=1000000):
 Calls prog 98 #[U,.slice A rest.length c] w (xO b rest base w):=by
 have q:CQ (w.alloc (.cells #[.slice none 0 0,.int .u64 0,.slice none 0 0,.slice none 0 0,.int .i64 0,.int .u8 0,.int .i64 0] 197)) w.heap.size 197 [.slice none 0 0,.int .u64 0,.slice none 0 0,.slice none 0 0,.int .i64 0,.int .u8 0,.int .i64 0]:=heap_alloc_new _ _;have B:η w (w.alloc (.cells #[.slice none 0 0,.int .u64 0,.slice none 0 0,.slice none 0 0,.int .i64 0,.int .u8 0,.int .i64 0] 197)):=(Below.refl _ _).alloc (Ad _) _;by_cases P:b=[]
 ·subst P;obtain⟨ab,N,aB⟩:∃ab N,U=.slice ab 0 N:=by
   obtain⟨bm,aw,_⟩:=z;rcases aw.2 with⟨Q,_⟩|⟨y,a6,a7,Q,_⟩
   ·exact⟨_,_,Q⟩
   ·exact⟨_,_,Q⟩
  subst aB;have s:Hid (CX [] rest=none):=Aa rfl;clear z R av;obtain⟨f0,f1,f2,f3,f4,f5,f6⟩:=Ar7 q;obtain⟨aD,aE,aG,aH,aL,aM,aR⟩:=EN q;go_enter func98,ntmps98
  go_wp2_with fail
  refine WE rfl w.heap.size q (.bool false) rfl rfl ⟨B,?_⟩;rw[s.out];rfl
 ·obtain⟨y,N,rfl,ba,a9,aq,al⟩:=z.at P;have bc:0<b.length:=zF.2 P;obtain⟨a3,a4,a5,a8,F⟩:=al (b.length-1) O;have am:b.getLast?=some (b[b.length-1]' O):=by rw[List.getLast?_eq_getElem?,Ae O]
  have ap:=Aa (az (b[b.length-1]' O) (List.getElem_mem _));generalize b[b.length-1]' O=a at*;have x:Hid (CX b rest=if a.nd.pre=rest then some a else none):=Aa (by rw[CX,am]);have t0:((b.length:Int)==0)=false:=ζ O;obtain⟨n,an⟩:=ε (b.length-1);have be:IntKind.i64.wrap ((b.length:Int) -1)=(n:Int):=(wrap64 _ O O).trans O;have bg:decide ((n:Int)<(b.length:Int))=true:=decide_eq_true O;have bh:n<b.length:=O;have bi:(n:Int)<(b.length:Int):=O;obtain⟨d,e,f,l,g,m,i,G,S,T⟩:=F.nd;simp only[Value.agg.injEq]at i;simp at i;obtain⟨rfl,rfl,rfl,rfl⟩:=i;have ac:Hid (∀k v,[Ac d a.nd.pre.length e,.int .u64 (a.nd.val.toNat:Int),.slice f a.nd.labels.length l,.slice g a.nd.kids.length m,.int .i64 a.off,.int .u8 (a.label.toNat:Int),.int .i64 a.word][k]?=some v->w.cell? (Δ y (7*n+k))=some v):=Aa (by rw[an];exact F.cells);have ad:=Aa F.nd;have j:∀k v,[Ac d a.nd.pre.length e,.int .u64 (a.nd.val.toNat:Int),.slice f a.nd.labels.length l,.slice g a.nd.kids.length m,.int .i64 a.off,.int .u8 (a.label.toNat:Int),.int .i64 a.word][k]?=some v->(w.alloc (.cells #[.slice none 0 0,.int .u64 0,.slice none 0 0,.slice none 0 0,.int .i64 0,.int .u8 0,.int .i64 0] 197)).cell? (Δ y (n*7+k))=some v:=λk v ar=>by
   rw[B.cell (p:=Δ y (n*7+k)) aq,Hq];exact ac.out k v ar
  have H:=j 0 _ rfl;have V:=j 1 _ rfl;have W:=j 2 _ rfl;have X:=j 3 _ rfl;have Y:=j 4 _ rfl;have Z:=j 5 _ rfl;have aa:=j 6 _ rfl;rw[Nat.add_zero]at H;have K:=Aa q;have u:=Aa B;have af:=Aa R;clear al am z F G S T an q j ac R B;go_enter func98,ntmps98
  go_wp2_with fail
  have h:=K.out.ξ ((Below.refl _ _).alloc (Ad _) (.cells #[Ac d a.nd.pre.length e,.int .u64 (a.nd.val.toNat:Int),.slice f a.nd.labels.length l,.slice g a.nd.kids.length m,.int .i64 a.off,.int .u8 (a.label.toNat:Int),.int .i64 a.word] 197));have r:CQ ((w.alloc (.cells #[.slice none 0 0,.int .u64 0,.slice none 0 0,.slice none 0 0,.int .i64 0,.int .u8 0,.int .i64 0] 197)).alloc (.cells #[Ac d a.nd.pre.length e,.int .u64 (a.nd.val.toNat:Int),.slice f a.nd.labels.length l,.slice g a.nd.kids.length m,.int .i64 a.off,.int .u8 (a.label.toNat:Int),.int .i64 a.word] 197)) (w.heap.size+1) 197 [Ac d a.nd.pre.length e,.int .u64 (a.nd.val.toNat:Int),.slice f a.nd.labels.length l,.slice g a.nd.kids.length m,.int .i64 a.off,.int .u8 (a.label.toNat:Int),.int .i64 a.word]:=Aaj _ _ _ _;have C:=u.out.alloc u.out.size (.cells #[Ac d a.nd.pre.length e,.int .u64 (a.nd.val.toNat:Int),.slice f a.nd.labels.length l,.slice g a.nd.kids.length m,.int .i64 a.off,.int .u8 (a.label.toNat:Int),.int .i64 a.word] 197);clear H V W X Y Z aa;generalize((w.alloc (.cells #[.slice none 0 0,.int .u64 0,.slice none 0 0,.slice none 0 0,.int .i64 0,.int .u8 0,.int .i64 0] 197)).alloc (.cells #[Ac d a.nd.pre.length e,.int .u64 (a.nd.val.toNat:Int),.slice f a.nd.labels.length l,.slice g a.nd.kids.length m,.int .i64 a.off,.int .u8 (a.label.toNat:Int),.int .i64 a.word] 197))=ah at*;obtain⟨a0,bj,a1,bk,a2,bl,i,G,S,T⟩:=ad.out;simp only[Value.agg.injEq]at i;simp at i;obtain⟨⟨rfl,rfl⟩,⟨rfl,rfl⟩,⟨rfl,rfl⟩⟩:=i;refine(xN d A a.nd.pre.length rest.length e c a.nd.pre rest ah (Ω ap.out) O (CV (own_below G C)).2 (af.out.below C)).mono ?_;clear G S T;rintro i bo⟨rfl,E⟩;have D:=τ C (E.below ah.heap.size);replace h:=h.ξ (E.below _);replace r:=r.ξ (E.below _);clear C E af;obtain⟨f0,f1,f2,f3,f4,f5,f6⟩:=Ar7 h;obtain⟨aD,aE,aG,aH,aL,aM,aR⟩:=EN h;obtain⟨H,V,W,X,Y,Z,aa⟩:=EN r;have bb:w.heap.size≠w.heap.size+1:=O;by_cases o:a.nd.pre=rest
  ·have s:Hid (CX b rest=some a):=Aa (by rw[x.out,if_pos o]);have t:decide (a.nd.pre=rest)=true:=decide_eq_true o;rw[t];clear x t o;have J:=Aa h;have L:=Aa D;clear h r D K u
   go_wp2_with fail
   obtain⟨ao,M,I,L6,-⟩:=Ar8 J.out L.out (Ad _) (Ac d a.nd.pre.length e) (.int .u64 (a.nd.val.toNat:Int)) (.slice f a.nd.labels.length l) (.slice g a.nd.kids.length m) (.int .i64 a.off) (.int .u8 (a.label.toNat:Int)) (.int .i64 a.word);rw[<-M];refine WE rfl w.heap.size I (.bool true) rfl rfl ⟨L6,?_⟩;rw[s.out];exact⟨_,_,_,_,rfl,ad.out.below L6⟩
  ·have s:Hid (CX b rest=none):=Aa (by rw[x.out,if_neg o]);have t:decide (a.nd.pre=rest)=false:=decide_eq_false o;rw[t];clear x t o;have J:=Aa h;have L:=Aa D;clear h r D K u H V W X Y Z aa
   go_wp2_with fail
   obtain⟨ao,M,I,L6,-⟩:=Ar8 J.out L.out (Ad _) (.slice none 0 0) (.int .u64 0) (.slice none 0 0) (.slice none 0 0) (.int .i64 0) (.int .u8 0) (.int .i64 0);rw[<-M];refine WE rfl w.heap.size I (.bool false) rfl rfl ⟨L6,?_⟩;rw[s.out];rfl
def Ep(w w':World):Prop:=w.heap.size<=w'.heap.size/\∀(g:Nat)(a:Array Value)(e:TypeId)(b:Nat×Nat),(e=5\/e=43\/e=195)->w.heap[g]?=some (Obj.cells a e b)->w'.heap[g]?=w.heap[g]?
def Ep.refl(w:World):Ep w w:=⟨Ad _,λ_ _ _ _ _ _=>rfl⟩
def Ep.of_below{w w':World}(a:η w w'):Ep w w':=⟨a.size,λb _ _ _ _ c=>a.block b (AA.1 c).1⟩
def Ep.trans{a b c:World}(h:Ep a b)(k:Ep b c):Ep a c:=
 ⟨Bi h.1 k.1,λg d e f j l=>by
  have i:=h.2 g d e f j l;exact(k.2 g d e f j (i.trans l)).trans i⟩
def Ep.Ake{w w':World}{g:Nat}(d:Kept w w' (some g))(j:∀(a:Array Value)(e:TypeId)(c:Nat×Nat),(e=5\/e=43\/e=195)->w.heap[g]?≠some (Obj.cells a e c)):Ep w w':=
 ⟨d.1,λh a e c i f=>d.2 h (AA.1 f).1 (λb=>by injection b with b;subst b;exact j a e c i f)⟩
def Ep.own{w w':World}{base k n:Nat}{e:TypeId}{v:Value}{xs:List Value}(h:Ep w w')(l:e=5\/e=43\/e=195)(d:w.ownsRow base e k v n xs):w'.ownsRow base e k v n xs:=by
 refine⟨d.1,?_⟩;rcases d.2 with a|⟨b,f,g,a,i,c,j⟩
 ·exact .inl a
 ·exact .inr ⟨b,f,g,a,i,(h.2 b _ _ _ l c).trans c,j⟩
def Ep.nd{w w':World}{base:Nat}{v:Value}{x:Nd}(s:Ep w w')(h:Yh w base v x):Yh w' base v x:=by
 obtain⟨a,d,b,e,c,f,g,i,j,k⟩:=h;exact⟨a,d,b,e,c,f,g,s.own (.inl rfl) i,s.own (.inl rfl) j,s.own (.inr (.inl rfl)) k⟩
def Ep.box{w w':World}{g:Nat}{xs:List Value}(s:Ep w w')(a:CQ w g 195 xs):CQ w' g 195 xs:=(s.2 g _ _ _ (.inr (.inr rfl)) a).trans a
def Pm(w:World)(A:Option Addr)(l:List UInt8):Prop:=
 Bs w A l.length l/\(∀a,A=some a->∃(b:Nat)(c:Array Value)(d:Nat×Nat),a=(Φ b)/\w.heap[b]?=some (Obj.cells c 5 d))/\(A=none->l=[])
def Pm.nil(w:World):Pm w none []:=by
 refine⟨Rd.nil,?_,λ_=>rfl⟩;intro b a;cases a
def Pm.keep{w w':World}{A:Option Addr}{l:List UInt8}(m:Pm w A l)(s:Ep w w'):Pm w' A l:=by
 obtain⟨g,h,n⟩:=m;refine⟨⟨g.1,λr=>?_⟩,λi a=>?_,n⟩
 ·obtain⟨u,v,a,o,p⟩:=g.2 r;obtain⟨f,d,e,c,b⟩:=h _ a;injection c with j k
  subst j k;exact⟨_,_,a,BI o s.1,λt q=>(Bh (w:=w) (s.2 _ _ _ _ (.inl rfl) b)).trans (p t q)⟩
 ·obtain⟨f,d,e,c,b⟩:=h i a;exact⟨f,d,e,c,(s.2 _ _ _ _ (.inl rfl) b).trans b⟩
def Pm.cut{w w':World}{A b:Option Addr}{l m:List UInt8}(g:Pm w A l)(p:Rd w' b (l.length+m.length) (l.map bv++m.map bv))(o:η w w')(h:zZ w w' 5 A b m.length):Pm w' b (l++m):=by
 refine⟨?_,λj a=>?_,λa=>?_⟩
 ·rw[AY];show Rd w' b _ ((l++m).map bv);rw[Dc];exact p
 ·rcases h with⟨rfl,_⟩|⟨d,c,e,_,k⟩
  ·obtain⟨d,c,n,f,i⟩:=g.2.1 j a;exact⟨d,c,n,f,(o.block _ (AA.1 i).1).trans i⟩
  ·rw[e]at a;injection a with a
   exact⟨d,c,_,a.symm,k⟩
 ·rcases h with⟨rfl,f⟩|⟨d,c,e,_⟩
  ·rw[g.2.2 a,List.eq_nil_of_length_eq_zero f];rfl
  ·rw[e]at a;exact nomatch a
def itV(p:List UInt8×UInt64):List Value:=[.string ⟨p.1.toArray⟩,.int .u64 (p.2.toNat:Int)]
structure FB(w:World)(base sb mb x:Nat)(items:List (List UInt8×UInt64))(met:List Int)(v:Value):Prop where
 box:CQ w sb 159 [Az x,v,.map (some mb)]
 row:w.ownsRow base 103 2 v items.length (items.map itV).flatten
 map:KU w mb (met.map λo=>(o,1))
 bs:base<=sb
 bm:base<=mb
 vs:v.ownBlock≠some sb
 xP:met.Nodup
 rng:∀o∈met,0<=o/\o<=65536
 len:items.length<=met.length
def PR:∀(N:Nat)(l:List Int),l.Nodup->(∀a∈l,0<=a/\a<(N:Int))->l.length<=N
 |0,l,_,b=>by
  cases l with
  |nil=>simp
  |cons f j=>have:=b f (List.mem_cons_self ..);omega
 |N+1,l,d,b=>by
  by_cases e:(N:Int)∈l
  ·have h:=PR N (l.erase (N:Int)) (d.erase _) (λa c=>by
    have:=(d.mem_erase_iff).1 c;have:=b a this.2;omega)
   rw[List.length_erase_of_mem e]at h;omega
  ·have:=PR N l d (λa c=>by
    have i:=b a c;have:a≠(N:Int):=λg=>e (g▸c)
    omega)
   omega
section
variable{w w':World}{base sb mb x:Nat}{items:List (List UInt8×UInt64)}{met:List Int}{v:Value}
def FB.few(a:FB w base sb mb x items met v):items.length<=65537:=
 Bi a.len (PR 65537 met a.xP (λo b=>Ω (a.rng o b)))
def FB.sm(b:FB w base sb mb x items met v):sb≠mb:=by
 intro d;have a:=b.box;have c:=b.map;unfold CQ at a;unfold KU at c;rw[d,c]at a;injection a with a
 cases a
def FB.vm(d:FB w base sb mb x items met v):v.ownBlock≠some mb:=by
 intro b;rcases d.row.2 with⟨c,_⟩|⟨h,f,g,c,_,a,_⟩
 ·subst c;exact nomatch b
 ·subst c;simp only[Ba,Option.some.injEq]at b;subst b;have e:=d.map;unfold KU at e;rw[e]at a;injection a with a
  cases a
def FB.below(a:FB w base sb mb x items met v)(k:η w w'):FB w' base sb mb x items met v:=
 ⟨a.box.ξ k,Fg a.row (Kept.of_below (r:=some sb) k) (.inl (λb=>a.vs b.symm)),a.map.below k,a.bs,a.bm,a.vs,a.xP,a.rng,a.len⟩
def FB.note(a:FB w base sb mb x items met v){o:Int}(q:0<=o/\o<=65536)(n:o∉met):FB (EF w mb (I5 0 ((met++[o]).map λo=>(o,1))).toArray ((met++[o]).map λo=>(o,(1:Int))).length) base sb mb x items (met++[o]) v/\
 Ep w (EF w mb (I5 0 ((met++[o]).map λo=>(o,1))).toArray ((met++[o]).map λo=>(o,(1:Int))).length)/\Below base w (EF w mb (I5 0 ((met++[o]).map λo=>(o,1))).toArray ((met++[o]).map λo=>(o,(1:Int))).length):=by
 have p:∀(d:Array Value)(e:TypeId)(f:Nat×Nat),w.heap[mb]?≠some (Obj.cells d e f):=λd e f b=>by
  have k:=a.map;unfold KU at k;rw[k]at b;injection b with b
  cases b
 have c:=J4 w mb (I5 0 ((met++[o]).map λo=>(o,1))).toArray ((met++[o]).map λo=>(o,(1:Int))).length;refine⟨⟨a.box.touch c a.sm,Ie a.row c (λj b e=>a.vm (by rw[b,e])),NU _ _ _ _ a.map.lt,a.bs,a.bm,a.vs,?_,?_,?_⟩,⟨c.size,λj d e f _ b=>c.block j (AA.1 b).1 (λm=>p d e f (m▸b))⟩,c.below (Il (Ju a.bm a.map.lt)) (λs e=>e▸a.bm)⟩
 ·exact CJ.2 ⟨a.xP,H9.2 ⟨by simp,UE⟩,λi h r l=>by rw[BG]at l;subst l;exact λe=>n (e▸h)⟩
 ·intro i h;rcases AL.1 h with g|g
  ·exact a.rng i g
  ·rw[BG]at g;exact g▸q
 ·have:=a.len;simp;omega
def FB.add(a:FB w base sb mb x items met v)(p:List UInt8×UInt64)(H:items.length<met.length){d f:Nat}{b:World}
 (z:b.ownsRow base 103 2 (.slice (some (Φ d)) (items.length+1) f) (items.length+1) ((items.map itV).flatten++itV p))(y:Below base w b)(g:Kept w b v.ownBlock)(A:v.ownBlock=some d\/w.heap.size<=d):
 FB (b.setCell (Δ sb 1) (.slice (some (Φ d)) (items.length+1) f)) base sb mb x (items++[p]) met (.slice (some (Φ d)) (items.length+1) f)/\
  Ep w (b.setCell (Δ sb 1) (.slice (some (Φ d)) (items.length+1) f))/\Below base w (b.setCell (Δ sb 1) (.slice (some (Φ d)) (items.length+1) f)):=by
 have B:=a.box.lt;have q:=a.map.lt;have o:d≠sb:=by
  rintro rfl;rcases A with c|c
  ·exact a.vs c
  ·omega
 have n:CQ b sb 159 [Az x,v,.map (some mb)]:=(g.2 sb B (λc=>a.vs c.symm)).trans a.box;have r:b.heap[mb]?=w.heap[mb]?:=g.2 mb q (λc=>a.vm c.symm);have m:=Kept.AZ b sb 1 (.slice (some (Φ d)) (items.length+1) f);have C:Ep w b:=by
  refine⟨g.1,λu s c t h i=>g.2 u (AA.1 i).1 (λj=>?_)⟩;rcases a.row.2 with⟨k,_⟩|⟨G,E,F,k,_,e,_⟩
  ·subst k;exact nomatch j
  ·subst k;simp only[Ba,Option.some.injEq]at j;subst j;rw[i]at e;injection e with e
   injection e with _ l
   rw[l]at h;exact absurd h U
 have D:Ep b (b.setCell (Δ sb 1) (.slice (some (Φ d)) (items.length+1) f)):=Ep.Ake m (λs c t h i=>by
  have e:b.heap[sb]?=_:=n;rw[i]at e;injection e with e
  injection e with _ l
  rw[l]at h;exact absurd h U)
 refine⟨⟨n.AZ 1 _,?_,?_,a.bs,a.bm,by simp[Ba,o],a.xP,a.rng,by simp;omega⟩,C.trans D,y.setCell (p:=Δ sb 1) a.bs _⟩
 ·have:=Fg z m (.inl (by simp[Ba,Ne.symm o]));simpa using this
 ·show(b.setCell _ _).heap[mb]?=_;rw[m.2 mb (BI q g.1) (λc=>a.sm (Option.some.inj c).symm),r];exact a.map
end
structure MO(s:St)(l:List Lk):Prop where
 xP:(l.map (·.off)).Nodup
 at_:∀k∈l,0<=k.off/\k.off<=65536/\DC s k.off=1/\Lt (wordsAt s.ws (k.off.toNat/8) 8)=some k.rc/\EL l<=k.rc.stamp.toNat
def MO.nil(s:St):MO s []:=⟨UE,λ_ a=>nomatch a⟩
def GL(l:List Lk)(k:Lk):EL (l++[k])=k.rc.stamp.toNat:=by
 unfold EL;rw[List.getLast?_append];rfl
def MO.step{s:St}{l:List Lk}(c:MO s l){off:Int}{r:Rc}(g:0<=off/\off<=65536)(n:DC s off=1)(f:Lt (wordsAt s.ws (off.toNat/8) 8)=some r)(t:r.stamp.toNat<EL l):MO s (l++[⟨off,r⟩]):=by
 refine⟨?_,λk a=>?_⟩
 ·rw[Dc];refine CJ.2 ⟨c.xP,by simp,λo m p e=>?_⟩;rw[List.map_singleton,BG]at e;subst e;rintro rfl;obtain⟨k,a,h⟩:=BM.1 m;obtain⟨_,_,_,b,d⟩:=c.at_ k a;rw[h,f]at b;injection b with b
  rw[<-b]at d;omega
 ·rw[GL];rcases AL.1 a with a|a
  ·obtain⟨i,j,b,d,q⟩:=c.at_ k a;exact⟨i,j,b,d,by show r.stamp.toNat<=_;omega⟩
  ·rw[BG]at a;subst a;exact⟨g.1,g.2,n,f,Ad _⟩
def MO.few{s:St}{l:List Lk}(a:MO s l):l.length<=65537:=by
 have:=PR 65537 (l.map (·.off)) a.xP (λf c=>by
  obtain⟨k,b,rfl⟩:=BM.1 c;obtain⟨d,e,_⟩:=a.at_ k b;omega)
 rwa [BX]at this
def Acz{L:Nat}{s:St}{off:Int}(a:dH L s.sh)(f:s.tk.length=s.sh.BQ)(h:L<=1024)(b:DC s off=1):0<=off/\off<=65536/\off=((8*(off.toNat/8):Nat):Int)/\off.toNat/8+8<=8*L:=by
 obtain⟨i,g,e,d,_,c⟩:=Vp (s:=s) (off:=off) (by rw[b];decide);rw[b]at d c;simp only[Bf]at d c;have:=a.data;have:=a.fits;have:=a.BQ;rw[f]at e;omega
def Tryz.Akf:JE prog 98 103 (.agg #[.string ⟨#[]⟩,.int .u64 0]) 2 24:=⟨underlying98,by kernel_rfl,rfl⟩
def Tryz.N8:prog.underlying 157=some (.map 3 3):=underlying157
def Tryz.kK(c:World):(zeroValue 3).run prog c=.ok (.int .i64 0) c:=by
 have a:(prog.info? 3).map (·.zero)=some (some (.int .i64 0)):=by kernel_rfl
 cases b:prog.info? 3 with
 |none=>rw[b]at a;cases a
 |some d=>
  rw[b]at a;simp only[Option.map_some,Option.some.injEq]at a;simp[zeroValue,typeInfo,b,a]
def Q9(r:Option (List (List UInt8×UInt64)×List Int))(base sb mb x:Nat)(w:World)(e:Ending)(w':World):Prop:=
 Below base w w'/\Ep w w'/\match r with
  |none=>e=.returned (.int .i64 5)
  |some (a,b)=>e=.returned (.int .i64 0)/\∃c,FB w' base sb mb x a b c
section
variable{len:Mode}{w w':World}{base sb mb x d p L:Nat}{s:St}{F:Nat->Prop}
def IU.past(b:IU len w x d p L s F)(k:Below base w w')(hF:∀a,F a->a<base)(h:x<base)(g:0<base/\1<base):IU len w' x d p L s F:=by
 have c:Touch (λa=>base<=a) w w':=⟨k.os,k.tape,k.output,k.size,λa _ f=>k.block a O⟩;exact⟨b.sys.keep c (λa e f=>Ω (hF a e)) O O,b.box.touch c O,b.out⟩
def gQ{o:Int}:∀{l:List Int},o∈l->l.Nodup->∃a d,l=a++o::d/\o∉a
 |[],b,_=>by cases b
 |f::m,b,j=>by
  obtain⟨h,i⟩:=H9.1 j;rcases Ea.1 b with rfl|e
  ·exact⟨[],m,rfl,by simp⟩
  ·obtain⟨a,d,g,k⟩:=gQ e i;refine⟨f::a,d,by rw[g];rfl,λc=>?_⟩;rcases Ea.1 c with rfl|c
   ·exact h e
   ·exact k c
def xQ(k:IU len w x d p L s F)(_:∀j,F j->j<base){items:List (List UInt8×UInt64)}{met:List Int}{v:Value}(b:FB w base sb mb x items met v)(f:Nat)(a:UInt64)(ahead:List UInt8)(A:Option Addr)(c:Nat)(g:FN s a=none):
 Calls prog 110 #[Az sb,.int .u64 (a.toNat:Int),.slice A ahead.length c] w (Q9 (Eb s (f+1) a ahead (items,met)) base sb mb x w):=by
 have n:Hid (Eb s (f+1) a ahead (items,met)=none):=Aa (by rw[Eb,g]);have i:=Aa (LY k a);have o:=Aa g;have u:=b.box.p1;have l:base<=w.heap.size:=Il (Ju b.bs b.box.lt);clear k b g;go_enter func110,ntmps110
 go_wp2_with fail
 refine i.out.mono ?_;rintro r t⟨e,m⟩;rw[o.out]at m;subst m;have h:=Aa (e.mono l);have q:=Aa (Ep.of_below e);clear e i
 go_wp2_with fail
 go_ret;refine⟨h.out.alloc (Bi l h.out.size) _,q.out.trans (Ep.of_below ((Below.refl _ _).alloc (Ad _) _)),?_⟩;rw[n.out];rfl
def Ac0(al:IU len w x d p L s F)(_:∀C,F C->C<base){items:List (List UInt8×UInt64)}{met:List Int}{v:Value}(n:FB w base sb mb x items met v)(f:Nat)(b:UInt64)(ahead:List UInt8)(A:Option Addr)(c:Nat)(am:Pm w A ahead)(br:ahead.length<=c)(bt:ahead.length<=33)(g:Nd)(E:FN s b=some g)(Q:Bg b∈met):
 Calls prog 110 #[Az sb,.int .u64 (b.toNat:Int),.slice A ahead.length c] w (Q9 (Eb s (f+1) b ahead (items,met)) base sb mb x w):=by
 have a0:Hid (Eb s (f+1) b ahead (items,met)=none):=Aa (by rw[Eb,E];simp only;rw[if_pos (.inl (by simpa using Q))]);have ab:=Aa (LY al b);have a1:=Aa E;have ac:=Aa n;have bA:IntKind.i64.wrap (b.toNat:Int)=Bg b:=rfl;have bw:=(Ha E).1;have bj:=n.box.p1;have P:base<=w.heap.size:=Il (Ju n.bs n.box.lt);obtain⟨t,G,ap,ar⟩:=gQ Q n.xP;have Z:=Aa ap;have B:Hid (∀aD∈t.map (λa=>(a,(1:Int))),aD.1≠Bg b):=Aa (λaD a9=>by
  obtain⟨a,a8,rfl⟩:=BM.1 a9;exact λe=>ar (e▸a8))
 have W:=Aa am;generalize Bg b=k at*;clear al n E Q ap ar am;go_enter func110,ntmps110
 go_wp2_with fail
 refine ab.out.mono ?_;rintro e bi⟨an,av⟩;rw[a1.out]at av;obtain⟨bL,rfl,a7⟩:=av;obtain⟨H,ah,aH,a5,aL,a6,rfl,aB,bg,bh⟩:=a7;obtain⟨h,N,I,S⟩:=Fz bi 195 [.slice H g.pre.length ah,.int .u64 (g.val.toNat:Int),.slice aH g.labels.length a5,.slice aL g.kids.length a6];have l:η w h:=τ an I;have j:=ac.out.below l;have m:KU h mb (t.map (λa=>(a,(1:Int)))++(k,1)::G.map (λa=>(a,(1:Int)))):=by
  have:=j.map;rw[Z.out]at this;simpa using this
 have az:=RF Tryz.N8 underlying3 h mb _ _ k 1 m B.out;have R:=Ajy Tryz.N8 underlying3 h mb _ _ k 1 2 m B.out;obtain⟨i,D⟩:=ε (EF h mb (I5 0 (t.map (λa=>(a,(1:Int)))++(k,2)::G.map (λa=>(a,(1:Int))))).toArray (t.map (λa=>(a,(1:Int)))++(k,2)::G.map (λa=>(a,(1:Int)))).length);rw[<-D]at R;have t3:Touch (λC=>C=mb) h i:=D▸J4 _ _ _ _;have aq:KU i mb (t.map (λa=>(a,(1:Int)))++(k,2)::G.map (λa=>(a,(1:Int)))):=by rw[D];exact NU _ _ _ _ m.lt
 have r:Ep h i:=⟨t3.size,λM bp e bq _ q=>t3.block M (AA.1 q).1 (λK=>by
  unfold KU at m;rw[K,m]at q;injection q with q
  cases q)⟩
 have V:Below base h i:=t3.below (Bi P l.size) (λbB e=>e▸j.bm);have T:=r.box S;have X:=(W.out.keep (Ep.of_below l)).keep r;have aw:Rd i H g.pre.length (g.pre.map bv):=(CV (r.own (.inl rfl) (own_below aB I))).2;have af:CQ i sb 159 [Az x,v,.map (some mb)]:=j.box.touch t3 j.sm;clear D;have u:=j.box.cell 0;have y:=j.box.cell 2;simp only[Ag,AB]at u y;rw[N]at az R u y;have bl:=Aa N;clear bj ab N
 go_wp2_with fail
 obtain⟨bb,bc,bd,be,-⟩:=CO T;have Y:=Aa ((l.mono P).trans V);have a2:=Aa ((Ep.of_below l).trans r);have aa:=Aa aq;have ad:=Aa af;have z:=Aa X;have aE:=Aa aw;clear az R u y an I l j m t3 r V S T X aw aB bg bh aq af
 go_region_law(refine KQ rfl (.tmp 42) (.tmp 44) 23 rfl Tryz.Ia A ahead.length (ahead.map bv) (by simp[Act.eval]) (by exact z.out.1) (λa4 e=>by obtain⟨M,_,_,K,_⟩:=z.out.2.1 a4 e;exact⟨M,K⟩) (λe=>by rw[z.out.2.2 e];rfl) H g.pre.length ah (g.pre.map bv) (by simp[Act.eval]) (by exact aE.out) (Iw _) O U ?_;intro bk bo aG bx ba ao a3)
 all_goals(have o:η i aG:=((Dr.drew i).below _).trans ao)
 all_goals(have bE:=RF Tryz.N8 underlying3 aG mb _ _ k 2 (aa.out.below o) B.out)
 all_goals(have J:=ad.out.ξ o)
 all_goals(have u:=J.cell 0)
 all_goals(have y:=J.cell 2)
 all_goals(simp only[Ag,AB]at u y)
 all_goals(have aM:=Aa (Y.out.trans (o.mono (Bi P (by have:=Y.out.size;exact this)))))
 all_goals(have aR:=Aa (a2.out.trans (Ep.of_below o)))
 all_goals(clear o ao a3 ba J aa ad z aE bb bc bd be W B Z ac)
 all_goals(go_wp2_with fail)
 all_goals(go_ret)
 all_goals(refine⟨aM.out,aR.out,?_⟩)
 all_goals(rw[a0.out])
 all_goals rfl
end
def Tryz.Ag6:JE prog 23 5 (.int .u8 0) 1 1:=⟨underlying23,by kernel_rfl,rfl⟩
def dN(ws:Nat->UInt64)(k:Nat):List UInt8:=((List.range k).map λa=>leBytes (FP ws a)).flatten
def Ac1(ws:Nat->UInt64)(k:Nat):dN ws (k+1)=dN ws k++leBytes (FP ws k):=by
 unfold dN;rw[List.range_succ,Dc,List.flatten_append];simp
def Ac2{w:World}{d L:Nat}{ws:Nat->UInt64}{len:Mode}{mark:Nat->Nat}{own:Nat->Prop}(B:Dev w d L ws len mark own)(ad:0<L)(T:L<=1024):
 Calls prog 11 #[Az d] w λk w'=>∃v,k=.returned v/\w'.ownsRow w.heap.size 5 1 v (64*L) ((dN ws L).map bv)/\η w w':=by
 have s:=Aa (λb(a:η w b)=>(B.below a).size T);obtain⟨R,af,o,X⟩:=B;obtain⟨aq,C⟩:=o.box;have j:=Aa (λb(a:η w b)=>(C.ξ a).cell 0);have J:=Aa (λb(a:η w b)e(i:e<L)=>Bs.below (o.line e i) a);obtain⟨c,p⟩:=ε (L*64);have Y:c<=65536:=O;have t0:((c:Int)==0)=false:=ζ O;obtain⟨Z,i,F,G,H⟩:=info_parts Tryz.Ag6.hi;have W:∀b:World,(Instr.makeSlice 23 (.int .i64 0) (.int .i64 (c:Int))).run prog b=.ok (.slice (some (Φ b.heap.size)) 0 c) (b.alloc (.cells (madeCells (Aw .u8 0).cells (c*1)) 5)):=λb=>by
  have:=run_make (P:=prog) (w:=b) 23 5 Z (.int .u8 0) underlying23 i F .i64 .i64 0 (c:Int) O O (by rw[H];omega) O;rw[G]at this;simpa using this
 obtain⟨f,q⟩:∃f,madeCells (Aw .u8 0).cells (c*1)=f:=⟨_,rfl⟩;have ap:f.size=c:=by rw[<-q];simp[madeCells]
 have K:Hid (∀b:World,(b.alloc (.cells f 5)).ownsRow b.heap.size 5 1 (.slice (some (Φ b.heap.size)) 0 c) 0 []):=Aa (λb=>⟨by simp,.inr ⟨b.heap.size,c,f,rfl,Ad _,heap_alloc_new _ _,BB _,Bi Y U,O,by simp⟩⟩);rw[q]at W;rw[<-p]at s;have ac:=Aa p;have d0:=j.out w (Below.refl _ _);simp only[Ag]at d0;clear C o X i F G H q p;go_enter func11,ntmps11
 go_wp2_with fail
 refine(s.out w (Below.refl _ _)).mono ?_;rintro k ab⟨rfl,rfl⟩
 go_wp2_with fail
 refine(s.out w (Below.refl _ _)).mono ?_;rintro k ab⟨rfl,rfl⟩;obtain⟨r,g⟩:=ε (w.alloc (.cells f 5));have m:η w r:=g▸(Below.refl _ _).alloc (Ad _) _;have z:Hid (r.ownsRow w.heap.size 5 1 (.slice (some (Φ w.heap.size)) 0 c) 0 []):=Aa (g▸K.out w);have t:=Aa m;have M:=Aa g;replace d0:=j.out r m;simp only[Ag]at d0;rw[g]at d0;clear g m
 go_wp2_with fail
 rw[<-M.out]
 go_loopw [3,16](λaa e wr=>∃a:Nat,a<=L/\e=.int .i64 (a:Nat)/\wr.ownsRow w.heap.size 5 1 aa (64*a) ((dN ws a).map bv)/\η w wr)(λ_ e _=>L-(intOf e).toNat)
 case atStart=>exact⟨0,BB _,rfl,z.out,t.out⟩
 case round=>
  obtain⟨a,ah,rfl,E,l⟩:=hrel;have x:=Aa E;have h:=Aa l;have d1:=j.out wr l;simp only[Ag]at d1;clear E l z t d0;by_cases D:a<L
  ·obtain⟨am,an,ao⟩:=YB D;have al:=jh a O;have n:=J.out wr h.out a D;rw[show 66*a=a*66 by omega]at n;have u:=Aa n;have I:Hid ((dN ws (a+1)).map bv=(dN ws a).map bv++(leBytes (FP ws a)).map bv):=Aa (by rw[Ac1,Dc]);clear n
   go_wp2_with(at_builtin;refine IJ rfl (.tmp 19) (.tmp 27) 23 rfl Tryz.Ag6 U w.heap.size u3 (64*a) ((dN ws a).map bv) rfl x.out (some (Δ R (a*66))) 64 64 ((leBytes (FP ws a)).map bv) rfl (by have:=u.out;exact this) (Iw _) O U h.out.size ?_;intro ar av A y S)
   have Q:=Aa A;have N:=Aa (h.out.trans y);clear A y S u
   go_wp2_with fail
   go_roundw
   case rel=>exact⟨a+1,O,by go_num,by rw[I.out,show 64*(a+1)=64*a+64 by omega];exact Q.out,N.out⟩
   case measure=>simp[intOf];omega
  ·have V:a=L:=O;subst V
   go_wp2_with fail
   go_ret;exact⟨_,rfl,x.out,h.out⟩
def xR(sh:Sh)(d a:ByteArray):Bool:=
 (match CP (st0 sh) 1 with
  |none=>false
  |some (b,c)=>decide ((GV {c with ws:=BK c.ws (b/8) (CW ⟨1,0,false,a⟩)} b).2=0))&&
 (decide ((Iq (st0 sh) ⟨1,0,false,a⟩).2.2=0)&&decide ((JD (Iq (st0 sh) ⟨1,0,false,a⟩).1 d.data.toList (Iq (st0 sh) ⟨1,0,false,a⟩).2.1).2=0))
def one1(sh:Sh)(a:ByteArray):St:=(Iq (st0 sh) ⟨1,0,false,a⟩).1
def OT(sh:Sh)(a:ByteArray):UInt64:=(Iq (st0 sh) ⟨1,0,false,a⟩).2.1
def RP(sh:Sh)(b a:ByteArray):St:=(JD (one1 sh a) b.data.toList (OT sh a)).1
def Ag7{sh:Sh}{f d:ByteArray}(a:xR sh f d=true):∀b c,CP (st0 sh) 1=some (b,c)->(GV {c with ws:=BK c.ws (b/8) (CW ⟨1,0,false,d⟩)} b).2=0:=by
 intro b c e;unfold xR at a;rw[e]at a;rw[Bool.and_eq_true]at a;exact of_decide_eq_true a.1
def one_add{sh:Sh}{d a:ByteArray}(b:xR sh d a=true):Iq (st0 sh) ⟨1,0,false,a⟩=(one1 sh a,OT sh a,0):=by
 unfold xR at b;rw[Bool.and_eq_true,Bool.and_eq_true]at b;have c:(Iq (st0 sh) ⟨1,0,false,a⟩).2.2=0:=of_decide_eq_true b.2.1;unfold one1 OT;rw[<-c]
def Aal{sh:Sh}{b a:ByteArray}(c:xR sh b a=true):JD (one1 sh a) b.data.toList (OT sh a)=(RP sh b a,0):=by
 unfold xR at c;rw[Bool.and_eq_true,Bool.and_eq_true]at c;have d:(JD (one1 sh a) b.data.toList (OT sh a)).2=0:=of_decide_eq_true c.2.2;unfold RP;rw[<-d]
def Aam(sh:Sh)(a:ByteArray)(c:a.size<=16):GH (st0 sh) a.data.toList=(0,7):=by
 have d:¬16<a.data.toList.length:=by simpa using c
 have b:(st0 sh).ws 9=0:=I7 sh 9 U;unfold GH;rw[if_neg d];unfold EY;rw[b,Et,if_pos rfl];rfl
