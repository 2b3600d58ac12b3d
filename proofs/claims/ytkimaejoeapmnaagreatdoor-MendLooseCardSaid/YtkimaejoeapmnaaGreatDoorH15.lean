import Derived.Test.YtkimaejoeapmnaaGreatDoorH14
set_option linter.defProp false
set_option maxHeartbeats 32000000
set_option maxRecDepth 100000
open List renaming length_drop->AV,length_take->Dw,getD_eq_getElem?_getD->Bi,getElem?_eq_getElem->Af,length_map->BJ,getElem?_take->CW,map_cons->Cb,flatten_cons->KX,getElem?_append_left->DI,getElem?_append_right->DZ,length_append->AQ,mem_map->Ba,mem_cons->CJ,length_pos_iff->zx,map_append->Dx,nodup_append->CE,nodup_cons->Hz,nodup_nil->UT,mem_singleton->BD,mem_append->AL,getElem?_cons_zero->Am,getElem?_cons_succ->AA
open Nat renaming testBit_two_pow->Abj,mul_comm->GK,le_refl->Ad,zero_le->BU,succ_mul->Aqc,add_assoc->Xt,lt_of_lt_of_le->BQ,le_trans->Bc,le_of_lt->IW,lt_of_le_of_lt->Hw
open Go.Lib renaming hid->Aa
open Go.Value renaming int->Au,slice->Ac,ownBlock->Bd
open Array renaming getElem?_eq_some_iff->AB
open Go.World renaming cell?_of_block->BA
namespace Go.Proofs.YtkimaejoeapmnaaGreatDoor
open Go.RowKit
open Go.Proofs.Tryz
def Au8:Value:= .agg #[.int .u64 0,.int .u64 0,.bool false,.string ⟨#[]⟩]
def xJ(l:List UInt64)(w:World)(e:Ending)(w':World):Prop:=
 η w w'/\match Nq l with
  | none=>e= .returned (.tuple #[Au8,.bool false])
  | some r=>e= .returned (.tuple #[rcV r,.bool true])
def YC{Q:Ending->World->Prop}{W:World}{tmps:Array Value}{fn:Func}(hr:fn.results= #[.cell 2 109,.tmp 3])(g:Nat){a b c d:Value}(h:CS W g 109 [a,b,c,d])(v:Value)(h2:tmps[2]? =some (Az g))(h3:tmps[3]? =some v)
 (hq:Q (.returned (.tuple #[.agg #[a,b,c,d],v])) W):bodyPost prog fn Q Exit.ret {tmps:=tmps,defers:=[]} W:=by
 obtain⟨y0,y1,y2,y3,f0,f1,f2,f3⟩:=CG h;have hu:=run_underlying (P:=prog) underlying109;refine bodyPost_ret (v:= .tuple #[.agg #[a,b,c,d],v]) (by simp [results,hr,go_sem,h2,h3,y0,y1,y2,y3]) rfl hq
def QP(l:List UInt64)(m k:Nat):List UInt8:=(leBytes (l.drop 3)).take k++List.replicate (m-k) 0
def gW(l:List UInt64)(m k:Nat)(hl:l.length=8)(hm:m<=40)(hk:k<=m):(QP l m k).length=m:=by
 unfold QP;have:=leBytes_length (l.drop 3);simp at this;simp;omega
def xK(l:List UInt64)(m k:Nat)(hl:l.length=8)(hm:m<=40)(hk:k<m)(h3:3+k/8<l.length):(QP l m k).set k (leB l[3+k/8] (k%8))=QP l m (k+1):=by
 have hT:=leBytes_length (l.drop 3);rw [AV,hl]at hT;have hb:=Ip (l.drop 3) (k/8) (k%8) (by rw [AV];omega) O;rw [show 8*(k/8)+k%8=k by omega,List.getElem_drop]at hb;unfold QP;rw [List.set_append_right _ _ (by rw [Dw];omega),Dw,Nat.min_eq_left O,Nat.sub_self];obtain⟨d,hd⟩:∃d,m-k=d+1:=⟨m-k-1,O⟩;rw [hd,show m- (k+1)=d by omega,List.replicate_succ,List.set_cons_zero,List.take_add_one,hb];simp
def Au9(n:Nat)(hn:n<18446744073709551616):(bits BinOp.and .u64 (n:Int) 256 !=0)=decide (n/256%2=1):=by
 have h:=u64_and_nat n 256 hn U;rw [show((256:Nat):Int)=256 from rfl]at h;rw [h];have hb:n&&&256=if n.testBit 8 then 256 else 0:=by
  apply Nat.eq_of_testBit_eq;intro i;rw [Nat.testBit_and,show 256=2^8 from rfl,Abj];by_cases hi:8=i
  ·subst hi;cases n.testBit 8
   ·rfl
   ·decide
  ·rw [decide_eq_false hi,Bool.and_false];split
   ·rw [Abj,decide_eq_false hi]
   ·simp
 rw [hb,Nat.testBit_eq_decide_div_mod_eq];by_cases hd:n/2^8%2=1
 ·rw [if_pos (decide_eq_true hd),decide_eq_true (by simpa using hd)];rfl
 ·rw [if_neg (by rw [decide_eq_false hd];exact Bool.false_ne_true),decide_eq_false (by simpa using hd)];rfl
def byte_of(x:UInt64)(j:Nat):(x.toNat:Int)/2^(j*8)%256=((leB x j).toNat:Int):=by
 have:=oL x j;rw [GK 8 j]at this;exact this
def Acw(l:List UInt64)(A:Option Addr)(c:Nat)(w:World)(_:8<=c)(h:Ws w A 8 l):Calls prog 84 #[.slice A 8 c] w (xJ l w):=by
 have hlen:=h.len;obtain⟨q0,b,off,rfl,hbl,c0⟩:=h.at (show 0<8 by decide);obtain⟨W,hW,hb,B⟩:=EZ w 109 [.int .u64 0,.int .u64 0,.bool false,.string ⟨#[]⟩];obtain⟨n0,hn0⟩:∃n,n=l[0].toNat:=⟨_,rfl⟩;have Aj3:n0<18446744073709551616:=hn0▸UInt64.toNat_lt _;have hD0:(l.getD 0 0).toNat=n0:=by rw [hn0,Bi,Af q0];rfl
 rw [<-hn0]at c0;have HN0:=Aa hn0;have HD0:=Aa hD0;clear hn0 hD0;have d0:W.cell? (Δ b off)=some (.int .u64 (n0:Int)):=by have:=(hb.cell (p:=Δ b (off+0)) hbl).trans c0;simpa using this
 have HW:=Aa hW;have HB:=Aa hb;have HK:=Aa B;obtain⟨y0,y1,y2,y3,f0,f1,f2,f3⟩:=CG B;rw [hW]at d0 y0 y1 y2 y3 f0 f1 f2 f3;clear hb B hW;by_cases h40:40<n0/65536
 ·have t1:decide ((40:Int)<(n0:Int)/65536)=true:=decide_eq_true O;have HV:Hid (Nq l=none):=Aa (by unfold Nq;rw [if_neg (by rintro⟨_,h⟩;rw [HD0.out]at h;omega)]);go_enter func84,ntmps84
  go_wp2_with fail
  rw [<-HW.out];refine YC rfl w.heap.size HK.out (.bool false) rfl rfl ⟨HB.out,?_⟩;rw [HV.out];rfl
 ·have t1:decide ((40:Int)<(n0:Int)/65536)=false:=decide_eq_false O;obtain⟨m,hm⟩:∃m,m=n0/65536:=⟨_,rfl⟩;have Acx:m<=40:=O
  have hmk:∀W:World,(Instr.makeSlice 22 (.int .u64 ((n0:Int)/65536)) (.int .u64 ((n0:Int)/65536))).run prog W= .ok (.slice (some (Φ W.heap.size)) m m) (W.alloc (.cells (madeCells (Au .u8 0).cells (m*1)) 5)):=λW=>by
   obtain⟨i0,hi,hz0,hz1,hz2⟩:=info_parts Tryz.Gq.hi;have e:(n0:Int)/65536=(m:Int):=O
   rw [e];have:=run_make (P:=prog) (w:=W) 22 5 i0 (.int .u8 0) underlying22 hi hz0 .u64 .u64 (m:Int) (m:Int) O O (by rw [hz2];omega) O;rw [hz1]at this;simpa using this
  obtain⟨W2,hW2⟩:∃W2,W2=W.alloc (.cells (madeCells (Au .u8 0).cells (m*1)) 5):=⟨_,rfl⟩;have hm1:=hmk W;rw [<-hW2]at hm1;obtain⟨tb,htb⟩:∃tb,tb=W.heap.size:=⟨_,rfl⟩;rw [<-htb]at hm1;have hWs:W.heap.size=w.heap.size+1:=by rw [HW.out];simp
  have B2:CS W2 tb 5 ((QP l m 0).map bv):=by
   have e:(QP l m 0).map bv=(madeCells (Au .u8 0).cells (m*1)).toList:=by rw [PX];simp [QP]
   rw [e];unfold CS;rw [hW2,htb,Array.toArray_toList];exact heap_alloc_new _ _
  have hb2:Below tb W W2:=by rw [hW2,htb];exact(Below.refl _ _).alloc (Ad _) _
  have HB2:=Aa B2;have Hb2:=Aa hb2;have HM:=Aa hm;have HTB:Hid (tb=w.heap.size+1):=Aa O;have Axj:=Aa htb;rw [HW.out]at hm1;clear B2 hb2 hW2 hmk hm htb hWs;go_enter func84,ntmps84
  go_wp2_with fail
  go_loopw [27](λi wr=>∃k:Nat,k<=m/\i= .int .i64 (k:Nat)/\CS wr tb 5 ((QP l m k).map bv)/\Below tb W wr)(λi _=>m- (intOf i).toNat)
  case atStart=>exact⟨0,BU _,rfl,HB2.out,Hb2.out⟩
  case round=>
   obtain⟨k,hk,rfl,hrow,hbr⟩:=hrel;have qi:=Aa hrow;have Nr:=Aa hbr;have qj:=Aa (HB.out.trans (hbr.mono (Ω HTB.out)));clear hrow hbr;by_cases hlt2:k<m
   ·have hk8:3+k/8<8:=O
    obtain⟨hq,b',off',e',_,hcell⟩:=(h.below qj.out).at hk8;injection e' with e'
    injection e' with e1 e2
    subst e1 e2;have hlen2:=gW l m k hlen Acx O;obtain⟨v0,hv0⟩:∃v,wr.cell? (Δ tb k)=some v:=⟨_,qi.out.has (i:=k) (by rw [BJ];omega)⟩;have hfz:=qi.out.frozen k;have Akd:=Aa (byte_of l[3+k/8] (k%8));have Ake:Hid (CS (wr.setCell (Δ tb k) (.int .u8 ((leB l[3+k/8] (k%8)).toNat:Int))) tb 5 ((QP l m (k+1)).map bv)):=Aa (by
     rw [<-xK l m k hlen Acx hlt2 hq,List.map_set];exact qi.out.AZ k _)
    have HNb:Hid (Below tb W (wr.setCell (Δ tb k) (.int .u8 ((leB l[3+k/8] (k%8)).toNat:Int)))):=Aa (Nr.out.setCell (p:=Δ tb k) (Ad _) _);obtain⟨x,hx⟩:∃x,l[3+k/8]=x:=⟨_,rfl⟩;rw [hx]at hcell Akd Ake HNb;clear hx hlen2
    go_wp2_with fail
    rw [Akd.out];go_roundw
    case rel=>exact⟨k+1,O,by go_num,Ake.out,HNb.out⟩
    case measure=>simp [intOf];omega
   ·have hkm:k=m:=O
    subst hkm;obtain⟨q1,b1,Axk,e1',_,cell1⟩:=(h.below qj.out).at (show 1<8 by decide);injection e1' with e1'
    injection e1' with e11 e12
    subst e11 e12;obtain⟨q2,b2,Aje,e2',_,cell2⟩:=(h.below qj.out).at (show 2<8 by decide);injection e2' with e2'
    injection e2' with e21 e22
    subst e21 e22;have cell0:wr.cell? (Δ b off)=some (.int .u64 (n0:Int)):=by have:=(qj.out.cell (p:=Δ b (off+0)) hbl).trans c0;simpa using this
    obtain⟨tx,htx⟩:∃tx:ByteArray,tx=⟨((leBytes (l.drop 3)).take k).toArray⟩:=⟨_,rfl⟩;have hLk:QP l k k=(leBytes (l.drop 3)).take k:=by simp [QP]
    have hBs:Bs wr (some (Φ tb)) k ((leBytes (l.drop 3)).take k):=by
     have:=qi.out.rd;rw [hLk,BJ]at this;have e:((leBytes (l.drop 3)).take k).length=k:=by rw [<-hLk];exact gW l k k hlen Acx (Ad _)
     rw [e]at this;exact this
    have hbd:η wr wr.drew:=(Dr.drew wr).below _;have hba:η wr (wr.alloc (.cells #[.int .u64 0,.int .u64 0,.bool false,.string ⟨#[]⟩] 109)).drew:=((Below.refl _ _).alloc (Ad _) _).trans ((Dr.drew _).below _);have hcv:=Ll (P:=prog) underlying22 underlying5 underlying9 (hBs.below hbd) k;have hcv2:=Ll (P:=prog) underlying22 underlying5 underlying9 (hBs.below hba) k;rw [<-htx]at hcv hcv2;clear hbd hba;obtain⟨g,hg⟩:∃g,(bits BinOp.and .u64 (n0:Int) 256 !=0)=g:=⟨_,rfl⟩;obtain⟨x1,hx1⟩:∃x,l[1]=x:=⟨_,rfl⟩;obtain⟨x2,hx2⟩:∃x,l[2]=x:=⟨_,rfl⟩;rw [hx1]at cell1;rw [hx2]at cell2;have HX1:=Aa hx1;have xh:=Aa hx2;have HG:=Aa hg;have HTx:=Aa htx;clear hx1 hx2 htx hLk hBs
    go_wp2_with fail
    go_region
    all_goals(obtain⟨W9,VW⟩:∃W9,W9=(wr.alloc (.cells #[.int .u64 (x1.toNat:Int),.int .u64 (x2.toNat:Int),.bool g,.string tx] 109)).drew:=⟨_,rfl⟩)
    all_goals(have B9:CS W9 wr.heap.size 109 [.int .u64 (x1.toNat:Int),.int .u64 (x2.toNat:Int),.bool g,.string tx]:=by rw [VW];exact heap_alloc_new _ _)
    all_goals(have An1:η wr W9:=by rw [VW];exact((Below.refl _ _).alloc (Ad _) _).trans ((Dr.drew _).below _))
    all_goals(have au:=τ qj.out An1)
    all_goals(have K9:CS W9 w.heap.size 109 _:=(HK.out.below Nr.out (Ω HTB.out)).below An1 (Ψ Nr.out.size HK.out.lt))
    all_goals(have hWr:w.heap.size<wr.heap.size:=Ψ Nr.out.size HK.out.lt)
    all_goals(have HE:=Aa (WH ⟨x1,x2,g,tx⟩ W9 (by show tx.size<=_;have h1:tx.size=((leBytes (l.drop 3)).take k).length:=(by rw [HTx.out];rfl);rw [h1,Dw];omega)))
    all_goals(rw [<-VW])
    all_goals(unfold rcV at HE)
    all_goals(obtain⟨u0,u1,u2,u3,_,_,_,_⟩:=CG B9)
    all_goals(have HC:Hid (Ui l=⟨x1,x2,g,tx⟩):=Aa (by
     have a1:l.getD 1 0=x1:=by rw [Bi,Af q1];exact HX1.out
     have a2:l.getD 2 0=x2:=by rw [Bi,Af q2];exact xh.out
     have a3:decide (n0/256%2=1)=g:=by rw [<-HG.out];exact(Au9 n0 Aj3).symm
     unfold Ui;rw [a1,a2,HD0.out,a3,<-HM.out,<-HTx.out]))
    all_goals(have xB:=Aa B9)
    all_goals(have HK9:=Aa K9)
    all_goals(have Asa:=Aa au)
    all_goals(clear B9 K9 au An1 VW cell0 cell1 cell2 hcv hcv2 hg)
    all_goals(go_wp2_with fail)
    all_goals(refine HE.out.mono ?_)
    all_goals(rintro e w10⟨WI,xM⟩)
    all_goals(have Aaf:=τ Asa.out WI)
    all_goals(have K10:=HK9.out.ξ WI)
    all_goals(have B10:=xB.out.ξ WI)
    all_goals(cases hR:Eb ⟨x1,x2,g,tx⟩)
    all_goals(rw [hR]at xM)
    all_goals(have Agy:=Aa K10)
    all_goals(have Agz:=Aa Aaf)
    all_goals(have dO:=Aa B10)
    all_goals(clear HE u0 u1 u2 u3 WI)
    all_goals first
     | (replace xM:e= .returned (.tuple #[.slice none 0 0,.bool false]):=xM
        subst xM;have HV:Hid (Nq l=none):=Aa (by unfold Nq;rw [if_pos ⟨hlen,by rw [HD0.out,<-HM.out];exact Acx⟩,HC.out,hR];simp);obtain⟨z0,z1,z2,z3,k0,k1,k2,k3⟩:=CG K10;clear hR K10 B10 Aaf
        go_wp2_with fail
        have BF:=(((Agy.out.AZ 0 (.int .u64 0)).AZ 1 (.int .u64 0)).AZ 2 (.bool false)).AZ 3 (.string ⟨#[]⟩);have Ld:=(((Agz.out.setCell (p:=Φ w.heap.size) (Ad _) (.int .u64 0)).setCell (p:=Δ w.heap.size 1) (Ad _) (.int .u64 0)).setCell (p:=Δ w.heap.size 2) (Ad _) (.bool false)).setCell (p:=Δ w.heap.size 3) (Ad _) (.string ⟨#[]⟩);refine YC rfl w.heap.size BF (.bool false) rfl rfl ⟨Ld,?_⟩;rw [HV.out];rfl)
     | (replace xM:∃g2,e= .returned (.tuple #[.slice (some (Φ g2)) 8 8,.bool true])/\w10.ownsRow W9.heap.size 28 1 (.slice (some (Φ g2)) 8 8) 8 ((Dj ⟨x1,x2,g,tx⟩).map wv):=xM
        obtain⟨g2,rfl,ho⟩:=xM;have heq:=Qe (some (Φ g2)) (some (Δ b off)) 8 8 8 c (Dj ⟨x1,x2,g,tx⟩) l w10 U U (CP ho).2 (h.below Aaf);have uJ:=Aa heq;clear heq ho B10 K10 Aaf;by_cases he:Dj ⟨x1,x2,g,tx⟩=l
        ·have HV:Hid (Nq l=some ⟨x1,x2,g,tx⟩):=Aa (by unfold Nq;rw [if_pos ⟨hlen,by rw [HD0.out,<-HM.out];exact Acx⟩,HC.out,if_pos ⟨hR,he⟩]);rw [decide_eq_true he]at uJ;clear he hR
         go_wp2_with fail
         refine uJ.out.mono ?_;rintro e w11⟨rfl,hd⟩;have K11:=Agy.out.ξ (hd.below _);have B11:=dO.out.ξ (hd.below _);have Ag0:=Aa (Agz.out.trans (hd.below w.heap.size));obtain⟨z0,z1,z2,z3,k0,k1,k2,k3⟩:=CG K11;obtain⟨u0,u1,u2,u3,_,_,_,_⟩:=CG B11;have Acy:=Aa K11;clear K11 B11 hd uJ
         go_wp2_with fail
         have BF:=(((Acy.out.AZ 0 (.int .u64 (x1.toNat:Int))).AZ 1 (.int .u64 (x2.toNat:Int))).AZ 2 (.bool g)).AZ 3 (.string tx);have Ld:=(((Ag0.out.setCell (p:=Φ w.heap.size) (Ad _) (.int .u64 (x1.toNat:Int))).setCell (p:=Δ w.heap.size 1) (Ad _) (.int .u64 (x2.toNat:Int))).setCell (p:=Δ w.heap.size 2) (Ad _) (.bool g)).setCell (p:=Δ w.heap.size 3) (Ad _) (.string tx);refine YC rfl w.heap.size BF (.bool true) rfl rfl ⟨Ld,?_⟩;rw [HV.out];rfl
        ·have HV:Hid (Nq l=none):=Aa (by unfold Nq;rw [if_pos ⟨hlen,by rw [HD0.out,<-HM.out];exact Acx⟩,HC.out,if_neg (λh=>he h.2)]);rw [decide_eq_false he]at uJ;clear he hR
         go_wp2_with fail
         refine uJ.out.mono ?_;rintro e w11⟨rfl,hd⟩;have K11:=Agy.out.ξ (hd.below _);have Ag0:=Aa (Agz.out.trans (hd.below w.heap.size));obtain⟨z0,z1,z2,z3,k0,k1,k2,k3⟩:=CG K11;have Acy:=Aa K11;clear K11 hd uJ
         go_wp2_with fail
         have BF:=(((Acy.out.AZ 0 (.int .u64 0)).AZ 1 (.int .u64 0)).AZ 2 (.bool false)).AZ 3 (.string ⟨#[]⟩);have Ld:=(((Ag0.out.setCell (p:=Φ w.heap.size) (Ad _) (.int .u64 0)).setCell (p:=Δ w.heap.size 1) (Ad _) (.int .u64 0)).setCell (p:=Δ w.heap.size 2) (Ad _) (.bool false)).setCell (p:=Δ w.heap.size 3) (Ad _) (.string ⟨#[]⟩);refine YC rfl w.heap.size BF (.bool false) rfl rfl ⟨Ld,?_⟩;rw [HV.out];rfl)
def DL{w:World}{base k n:Nat}{e:TypeId}{v:Value}{xs:List Value}(h:w.ownsRow base e k v n xs):∃A c,v= .slice A n c/\n<=c/\Rd w A (n*k) xs:=by
 rcases h.2 with⟨h1,h2⟩| ⟨g,cap,cur,h1,h2,h3,h4,h5,h6,h7⟩
 ·subst h2;exact⟨none,0,h1,Ad _,h.1,λhn=>O⟩
 ·refine⟨_,_,h1,h4,h.1,λhn=>⟨g,0,rfl,(AB.1 h3).1,λj hj=> ?_⟩⟩;rw [cell_of_row w g _ cur _ (0,0) h3,<-h7,CW,if_pos O];simp
def flat_get{α:Type}(f:α->List Value)(m:Nat)(hf:∀a,(f a).length=m):∀(l:List α)(k i:Nat)(hk:k<l.length),i<m->((l.map f).flatten)[k*m+i]? =(f l[k])[i]?
 | a::t,0,i,_,hi=>by
   rw [Cb,KX,Nat.zero_mul,Nat.zero_add,DI (by rw [hf];exact hi)];rfl
 | a::t,k+1,i,hk,hi=>by
   rw [Cb,KX,DZ (by rw [hf,Aqc];omega),hf,show(k+1)*m+i-m=k*m+i by rw [Aqc];omega];exact flat_get f m hf t k i (by simpa using hk) hi
def lkC(k:Lk):List Value:=[.int .i64 k.off,.int .u64 (k.rc.stamp.toNat:Int),.int .u64 (k.rc.next.toNat:Int),.bool k.rc.gone,.string k.rc.text]
def kN(l:List Lk):List Value:=(l.map lkC).flatten
def qo(l:List Lk)(a:Lk):kN (l++[a])=kN l++lkC a:=by simp [kN]
def LkR(w:World)(A:Option Addr)(l:List Lk):Prop:=Rd w A (l.length*5) (kN l)
def LkR.below{w w':World}{A:Option Addr}{l:List Lk}(h:LkR w A l)(k:η w w'):LkR w' A l:=Rd.below h k
def LkR.at{w:World}{A:Option Addr}{l:List Lk}(h:LkR w A l)(k:Nat)(hk:k<l.length):∃b off,A=some (Δ b off)/\b<w.heap.size/\w.cell? (Δ b (off+k*5))=some (.int .i64 l[k].off)/\w.cell? (Δ b (off+k*5+1))=some (.int .u64 (l[k].rc.stamp.toNat:Int))/\
 w.cell? (Δ b (off+k*5+2))=some (.int .u64 (l[k].rc.next.toNat:Int))/\w.cell? (Δ b (off+k*5+3))=some (.bool l[k].rc.gone)/\w.cell? (Δ b (off+k*5+4))=some (.string l[k].rc.text):=by
 obtain⟨b,off,e,hb,hc⟩:=h.2 O;have key:∀i,i<5->w.cell? (Δ b (off+k*5+i))=(lkC l[k])[i]? :=λi hi=>by
  rw [Xt,hc (k*5+i) O];exact flat_get lkC 5 (λ_=>rfl) l k i hk hi
 exact⟨b,off,e,hb,key 0 U,key 1 U,key 2 U,key 3 U,key 4 U⟩
def VA{w:World}{base:Nat}{v:Value}{l:List Lk}(h:w.ownsRow base 111 5 v l.length (kN l)):∃A c,v= .slice A l.length c/\l.length<=c/\LkR w A l:=DL h
section
variable{w w':World}{d p L:Nat}{s:St}{F:Nat->Prop}
def Ew.size{len:DY}(h:Ew len w d p L s F):Calls prog 32 #[Az d] w λe w'=>e= .returned (.int .i64 ((L*64:Nat):Int))/\w=w':=by
 obtain⟨tb,hb,n,cT,cH,own,h,_⟩:=h;exact h.dev.size h.L1
def Ew.pos{len:DY}(h:Ew len w d p L s F):0<L/\L<=1024/\dJ L s.sh/\s.tk.length=s.sh.BM:=by
 obtain⟨tb,hb,n,cT,cH,own,h,_⟩:=h;exact⟨h.L0,h.L1,FK h.shape,by rw [h.Oq,h.bZ]⟩
def WJ{len:DY}(h:Ew len w d p L s F):Calls prog 82 #[Az d,Az p] w λe w'=>e= .returned (.bool false)/\w=w':=by
 have hL0:=h.pos.1;have t0:(((L*64:Nat):Int)==0)=false:=by rw [beq_eq_false_iff_ne];omega
 have hsz:=h.size;generalize L*64=sz at hsz t0;have HS:=Aa hsz;clear hsz h;go_enter func82,ntmps82
 go_wp2_with fail
 refine HS.out.mono ?_;rintro e w1⟨rfl,rfl⟩
 go_wp2_with fail
 go_ret;exact⟨rfl,rfl⟩
end
def Akf(l:List Lk)(at_:Nat):Value:=match Vj l at_ with
 | some t=> .tuple #[.string t,.bool true]
 | none=> .tuple #[.string ⟨#[]⟩,.bool false]
def Ag1(l:List Lk)(A:Option Addr)(c:Nat)(at_:UInt64)(w:World)(hl:l.length<=100000)(h:LkR w A l):Calls prog 64 #[.slice A l.length c,.int .u64 (at_.toNat:Int)] w λe w'=>e= .returned (Akf l at_.toNat)/\η w w':=by
 have HR:=Aa h;clear h;go_enter func64,ntmps64
 go_wp2_with fail
 go_loopw [10](λi wr=>∃k:Nat,k<=l.length/\i= .int .i64 (k:Nat)/\Vj l at_.toNat=Vj (l.drop k) at_.toNat/\η w wr)(λi _=>l.length- (intOf i).toNat)
 case atStart=>exact⟨0,BU _,rfl,rfl,Below.refl _ _⟩
 case round=>
  obtain⟨k,hk,rfl,hse,hb⟩:=hrel;have HS:=Aa hse;have HB:=Aa hb;clear hse hb;by_cases hlt:k<l.length
  ·obtain⟨b,off,rfl,hbw,q0,q1,q2,q3,q4⟩:=(HR.out.below HB.out).at k hlt;obtain⟨hx1,hx2,hx5⟩:=Yg hlt;have hwk:=eX k O;have MX:Hid (Vj l at_.toNat=if l[k].rc.stamp.toNat<=at_.toNat then(if l[k].rc.gone then none else some l[k].rc.text)else Vj (l.drop (k+1)) at_.toNat):=Aa (by
    rw [HS.out,List.drop_eq_getElem_cons hlt,Vj])
   generalize l[k]=it at*;obtain⟨io,ist,inx,ig,it⟩:=it;simp only at q0 q1 q2 q3 q4 MX;by_cases hst:ist.toNat<=at_.toNat
   ·have t1:decide ((ist.toNat:Int)<=(at_.toNat:Int))=true:=decide_eq_true O;have t2:decide (ist.toNat<=at_.toNat)=true:=decide_eq_true hst;rw [if_pos hst]at MX;clear hst HS;cases ig
    all_goals(go_wp2_with fail)
    all_goals(go_ret2)
    all_goals(refine⟨?_,HB.out.alloc HB.out.size _⟩)
    all_goals(unfold Akf)
    all_goals(rw [MX.out])
    all_goals rfl
   ·have t1:decide ((ist.toNat:Int)<=(at_.toNat:Int))=false:=decide_eq_false O;have t2:decide (ist.toNat<=at_.toNat)=false:=decide_eq_false hst;rw [if_neg hst]at MX;have HB2:=Aa (HB.out.alloc HB.out.size (.cells #[.int .i64 io,.int .u64 (ist.toNat:Int),.int .u64 (inx.toNat:Int),.bool ig,.string it] 111));clear hst HS
    go_wp2_with fail
    go_roundw
    case rel=>exact⟨k+1,O,by go_num,MX.out,HB2.out⟩
    case measure=>simp [intOf];omega
  ·obtain⟨hx1,hx5⟩:=mQ hlt;have HE:Hid (Vj l at_.toNat=none):=Aa (by rw [HS.out,List.drop_of_length_le O];rfl);clear HS
   go_wp2_with fail
   go_ret2;refine⟨?_,HB.out⟩;unfold Akf;rw [HE.out];rfl
def Ja(w:World)(G:Nat->Prop)(A:Option Addr)(n:Nat)(xs:List Value):Prop:=Rd w A n xs/\(0<n->∀a,A=some a->¬G a.block)
section
variable{w w':World}{G G':Nat->Prop}{A:Option Addr}{n:Nat}{xs:List Value}
def Ja.moved(h:Ja w G A n xs)(m:AP G G' w w'):Ja w' G' A n xs:=by
 obtain⟨⟨h1,h2⟩,h3⟩:=h;refine⟨⟨h1,λhn=> ?_⟩,λhn a e=> ?_⟩
 ·obtain⟨b,off,e,hb,hc⟩:=h2 hn;exact⟨b,off,e,BQ hb m.touch.size,λj hj=>(BA (w:=w) (m.touch.block b hb (h3 hn _ e))).trans (hc j hj)⟩
 ·obtain⟨b,off,e',hb,hc⟩:=h2 hn;rw [e']at e;injection e with e
  subst e;exact m.out hb (h3 hn _ e')
def Ja.below(h:Ja w G A n xs)(k:η w w'):Ja w' G A n xs:=h.moved (AP.of_below k)
def Ja.mono{F:Nat->Prop}(h:Ja w G A n xs)(k:∀b,b<w.heap.size->F b->G b):Ja w F A n xs:=⟨h.1,λhn a e hf=>by
 obtain⟨b,off,e',hb,hc⟩:=h.1.2 hn;rw [e']at e;injection e with e
 subst e;exact h.2 hn _ e' (k _ hb hf)⟩
def Ja.take(h:Ja w G A n xs)(k:Nat)(hk:k<=n):Ja w G A k (xs.take k):=by
 obtain⟨⟨h1,h2⟩,h3⟩:=h;refine⟨⟨by rw [Dw];omega,λhn=> ?_⟩,λhn=>h3 O⟩;obtain⟨b,off,e,hb,hc⟩:=h2 O;exact⟨b,off,e,hb,λj hj=>by rw [hc j O,CW,if_pos hj]⟩
def Ja.cut{b off c:Nat}(h:Ja w G (some (Δ b off)) n xs)(k:Nat)(hk:k<=n)(hc:n<=c):Ja w G (if c=k then some (Δ b off) else some (Δ b (off+k))) (n-k) (xs.drop k):=by
 obtain⟨⟨h1,h2⟩,h3⟩:=h;by_cases hn:k=n
 ·refine⟨⟨by rw [AV];omega,λhn'=>O⟩,λhn'=>O⟩
 ·rw [if_neg O];refine⟨⟨by rw [AV];omega,λhn'=> ?_⟩,λhn' a e=> ?_⟩
  ·obtain⟨b',off',e,hb,hcc⟩:=h2 O;injection e with e
   injection e with e1 e2
   subst e1 e2;exact⟨_,_,rfl,hb,λj hj=>by rw [Xt,hcc (k+j) O,List.getElem?_drop]⟩
  ·injection e with e
   subst e;exact h3 O (Δ b off) rfl
def Ja.JU{base c:Nat}{e:TypeId}(h:w.ownsRow base e 1 (.slice A n c) n xs)(hG:∀b,base<=b->b<w.heap.size->¬G b):Ja w G A n xs:=by
 refine⟨(CP h).2,λhn a ea=> ?_⟩;rcases h.2 with⟨h1,_⟩| ⟨g',cap,cur,h1,h2,h3,_⟩
 ·simp only [Value.slice.injEq]at h1;rw [h1.1]at ea;cases ea
 ·simp only [Value.slice.injEq]at h1;rw [h1.1]at ea;injection ea with ea
  subst ea;exact hG _ h2 (AB.1 h3).1
def Ja.nil:Ja w G A 0 []:=⟨Rd.nil,λh=>absurd h O⟩
end
def ax(w:World)(G:Nat->Prop)(a b c d:Value)(nd:Nd):Prop:=
 ∃A1 c1 A2 c2 A3 c3,a= .slice A1 nd.pre.length c1/\b= .int .u64 (nd.val.toNat:Int)/\c= .slice A2 nd.labels.length c2/\d= .slice A3 nd.kids.length c3/\nd.pre.length<=c1/\
  Ja w G A1 nd.pre.length (nd.pre.map bv)/\Ja w G A2 nd.labels.length (nd.labels.map bv)/\Ja w G A3 nd.kids.length (nd.kids.map wv)
def ax.moved{w w':World}{G G':Nat->Prop}{a b c d:Value}{nd:Nd}(h:ax w G a b c d nd)(m:AP G G' w w'):ax w' G' a b c d nd:=by
 obtain⟨A1,c1,A2,c2,A3,c3,e1,e2,e3,e4,hc,h1,h2,h3⟩:=h;exact⟨A1,c1,A2,c2,A3,c3,e1,e2,e3,e4,hc,h1.moved m,h2.moved m,h3.moved m⟩
def ax.Asb{w:World}{G:Nat->Prop}{base:Nat}{a b c d:Value}{nd:Nd}(h:XF w base (.agg #[a,b,c,d]) nd)(hG:∀b,base<=b->b<w.heap.size->¬G b):ax w G a b c d nd:=by
 obtain⟨A1,c1,A2,c2,A3,c3,e,h1,h2,h3⟩:=h;simp only [Value.agg.injEq]at e;simp at e;obtain⟨rfl,rfl,rfl,rfl⟩:=e;exact⟨A1,c1,A2,c2,A3,c3,rfl,rfl,rfl,rfl,(CP h1).1,Ja.JU h1 hG,Ja.JU h2 hG,Ja.JU h3 hG⟩
def U0{L:Nat}{s s1:St}{c off:Nat}(ok:dJ L s.sh)(FZ:s.tk.length=s.sh.BM)(hc:c=1\/c=2)(h:CO s c=some (off,s1)):∃o,off=8*o/\o+8*Bf c<=8*L:=by
 unfold CO at h;split at h
 ·cases h
 ·rename_i i hi;split at h
  ·cases h
  ·rename_i a ha;injection h with h
   injection h with h1 h2
   have hil:=(Qq hi).1;have hal:a<Bv c:=by
    unfold KI at ha;split at ha
    ·exact jS ha
    ·cases ha
   unfold CY at h1;have:=ok.data;have:=ok.fits;rw [FZ]at hil;rcases hc with rfl| rfl
   ·refine⟨off/8,?_,?_⟩<;>simp only [Bf,Bv]at* <;>omega
   ·refine⟨off/8,?_,?_⟩<;>simp only [Bf,Bv]at* <;>omega
def Tm(x:Nd):Dp x=1\/Dp x=2:=by unfold Dp;split<;>simp
def xN(x:Nd):(Ea x).length=8*Bf (Dp x):=by
 rw [ER];unfold Dp;split<;>rfl
def Ir(j:Jm)(n:Nd):(Ei j n).1.made.length<=j.made.length+1:=by
 unfold Ei;split
 ·simp
 ·split
  ·simp
  ·split;split
   ·split;split<;>simp
   ·simp
def OB(j:Jm)(n:Nd)(label:UInt8)(kid:UInt64)(e:Int):(Hr j n label kid e).1.made.length<=j.made.length+1:=by
 unfold Hr;split
 ·simp
 ·split
  ·exact Ir _ _
  ·simp
def LG:∀(f:Nat)(j:Jm)(l:List UInt8)(value:UInt64),(Lh f j l value).1.made.length<=j.made.length+f
 | 0,j,l,value=>by simp [Lh]
 | f+1,j,l,value=>by
   unfold Lh;split
   ·have:=Ir j ⟨l,value,[],[]⟩;omega
   ·have h1:=LG f j (l.drop 16) value;split;rename_i j1 kid e he;rw [he]at h1;have:=OB j1 ⟨l.take 15,0,[],[]⟩ (l.getD 15 0) kid e;simp only at h1;omega
def wrC(x:Wr):List Value:=[.string x.key,.string x.text,.bool x.gone]
def FQ(l:List Wr):List Value:=(l.map wrC).flatten
def MO:∀(l:List Wr),(FQ l).length=l.length*3
 | []=>rfl
 | a::t=>by
   have:=MO t;simp only [FQ,Cb,KX,AQ,List.length_cons]at this⊢;rw [this];simp [wrC];omega
def I4(w:World)(G:Nat->Prop)(v:Value)(s:List Wr):Prop:=∃A c,v= .slice A s.length c/\s.length<=c/\Ja w G A (s.length*3) (FQ s)
def I4.nil{w:World}{G:Nat->Prop}:I4 w G (.slice none 0 0) []:=⟨none,0,rfl,Ad _,Ja.nil⟩
def I4.moved{w w':World}{G G':Nat->Prop}{v:Value}{s:List Wr}(h:I4 w G v s)(m:AP G G' w w'):I4 w' G' v s:=by
 obtain⟨A,c,e,h1,h2⟩:=h;exact⟨A,c,e,h1,h2.moved m⟩
def I4.below{w w':World}{G:Nat->Prop}{v:Value}{s:List Wr}(h:I4 w G v s)(k:η w w'):I4 w' G v s:=h.moved (AP.of_below k)
def I4.mono{w:World}{F G:Nat->Prop}{v:Value}{s:List Wr}(h:I4 w G v s)(k:∀b,b<w.heap.size->F b->G b):I4 w F v s:=by
 obtain⟨A,c,e,h1,h2⟩:=h;exact⟨A,c,e,h1,h2.mono k⟩
def I4.at{w:World}{G:Nat->Prop}{v:Value}{s:List Wr}(h:I4 w G v s)(k:Nat)(hk:k<s.length):∃b off c,v= .slice (some (Δ b off)) s.length c/\s.length<=c/\b<w.heap.size/\¬G b/\
 w.cell? (Δ b (off+k*3))=some (.string s[k].key)/\w.cell? (Δ b (off+k*3+1))=some (.string s[k].text)/\w.cell? (Δ b (off+k*3+2))=some (.bool s[k].gone):=by
 obtain⟨A,c,e,hc,hr,hG⟩:=h;obtain⟨b,off,rfl,hb,hcl⟩:=hr.2 O;have key:∀i,i<3->w.cell? (Δ b (off+k*3+i))=(wrC s[k])[i]? :=λi hi=>by
  rw [Xt,hcl (k*3+i) O];exact flat_get wrC 3 (λ_=>rfl) s k i hk hi
 exact⟨b,off,c,e,hc,hb,hG O _ rfl,key 0 U,key 1 U,key 2 U⟩
def I4.slice{w:World}{G:Nat->Prop}{v:Value}{s:List Wr}(h:I4 w G v s):∃A c,v= .slice A s.length c:=by
 obtain⟨A,c,e,_⟩:=h;exact⟨A,c,e⟩
def Tryz.qp:JS prog 53 74 (.agg #[.string ⟨#[]⟩,.string ⟨#[]⟩,.bool false]) 3 40:=⟨underlying53,by kernel_rfl,rfl⟩
def U1(x:Wr):Value:= .agg #[.string x.key,.string x.text,.bool x.gone]
def PE(x:Wr)(w:World)(h1:x.key.size<=4294967296)(h2:x.text.size<=4294967296):Calls prog 87 #[U1 x] w λe w'=>e= .returned (.bool (Dz x))/\η w w':=by
 obtain⟨ky,tx,g⟩:=x;simp only [U1]at h1 h2⊢;obtain⟨W,hW,hb,B⟩:=EZ w 74 [.string ky,.string tx,.bool g];obtain⟨y0,y1,y2⟩:=B.p3;have HB:=Aa hb;rw [hW]at y0 y1 y2 HB;have e4:=ai tx;have E4:=Aa e4;clear B hb hW e4;by_cases hk:16<ky.size
 ·have t1:decide ((16:Int)<(ky.size:Int))=true:=decide_eq_true O;have HV:Hid (Dz ⟨ky,tx,g⟩=false):=Aa (by
   unfold Dz;rw [show decide (ky.size<=16)=false from decide_eq_false O];rfl)
  clear hk;go_enter func87,ntmps87
  go_wp2_with fail
  go_ret;exact⟨by rw [HV.out];rfl,HB.out⟩
 ·have t1:decide ((16:Int)<(ky.size:Int))=false:=decide_eq_false O;by_cases ht:40<tx.size
  ·have t2:decide ((40:Int)<(tx.size:Int))=true:=decide_eq_true O;have HV:Hid (Dz ⟨ky,tx,g⟩=false):=Aa (by
    unfold Dz;rw [show decide (tx.size<=40)=false from decide_eq_false O,Bool.and_false];rfl)
   clear hk ht;go_enter func87,ntmps87
   go_wp2_with fail
   go_ret;exact⟨by rw [HV.out];rfl,HB.out⟩
  ·have t2:decide ((40:Int)<(tx.size:Int))=false:=decide_eq_false O;have hR:Hid (Dz ⟨ky,tx,g⟩=(!g|| (tx.toList==[]))):=Aa (by
    unfold Dz;rw [E4.out,show decide (ky.size<=16)=true from decide_eq_true O,show decide (tx.size<=40)=true from decide_eq_true O];rfl)
   clear hk ht;cases g with
   | false=>
     go_enter func87,ntmps87
     go_wp2_with fail
     go_ret;exact⟨by rw [hR.out];rfl,HB.out⟩
   | true=>
     have hie:∀l:List UInt8,(l==[])=l.isEmpty:=λl=>by cases l<;>rfl
     rw [hie]at hR;go_enter func87,ntmps87
     go_wp2_with fail
     go_ret;exact⟨by rw [hR.out];rfl,HB.out⟩
def ay(l:List Wr):∀u∈FQ l,u.oneCell'=true:=by
 intro u hu;simp only [FQ,List.mem_flatten,Ba]at hu;obtain⟨_,⟨x,_,rfl⟩,hu⟩:=hu;simp only [wrC,CJ,List.not_mem_nil,or_false]at hu;rcases hu with rfl| rfl| rfl<;>rfl
def az(a b:List Wr):FQ (a++b)=FQ a++FQ b:=by simp [FQ]
def Acz{w:World}{base g k:Nat}{e:TypeId}(hg:CS w g e [])(hb:base<=g):w.ownsRow base e k (.slice (some (Φ g)) 0 0) 0 []:=by
 refine⟨by simp,.inr ⟨g,0,#[],rfl,hb,hg,Ad _,by decide,by simp,by simp⟩⟩
def qw{w:World}{G:Nat->Prop}{base n:Nat}{v:Value}{s:List Wr}(h:w.ownsRow base 74 3 v n (FQ s))(hn:s.length=n)(hG:∀b,base<=b->b<w.heap.size->¬G b):I4 w G v s:=by
 subst hn;obtain⟨A,c,rfl,hc,hr⟩:=DL h;refine⟨A,c,rfl,hc,hr,λhn a ea=> ?_⟩;subst ea;rcases h.2 with⟨h1,_⟩| ⟨g',cap,cur,h1,h2,h3,_⟩
 ·simp only [Value.slice.injEq]at h1;exact absurd h1.1 Θ
 ·simp only [Value.slice.injEq,Option.some.injEq]at h1;rw [h1.1];exact hG _ h2 (AB.1 h3).1
def PG{w:World}{G:Nat->Prop}{v:Value}{s:List Wr}(h:I4 w G v s)(hs:s.length<=100000):
 Calls prog 88 #[v] w λe w'=>∃u,e= .returned u/\w'.ownsRow w.heap.size 74 3 u s.length (FQ s)/\η w w':=by
 obtain⟨A,c,rfl,hc,hr,hG⟩:=h;have q1:=λW=>Lib.run_eql_slice_nil (P:=prog) W 53 74 A s.length c 0 0 underlying53
 cases A with
 | none=>
   have hs0:s=[]:=by
    by_cases e:s=[]
    ·exact e
    ·obtain⟨b,off,e2,_⟩:=hr.2 (Ω (zx.2 e));cases e2
   subst hs0;simp only [List.length_nil]at q1;clear hr hG;go_enter func88,ntmps88
   go_wp2_with fail
   go_ret;exact⟨_,rfl,⟨by simp [FQ],.inl ⟨rfl,rfl⟩⟩,Below.refl _ _⟩
 | some a=>
   have HR:=Aa hr;have HC:=Aa hs;have hb0:η w (w.alloc (.cells #[] 74)):=(Below.refl _ _).alloc (Ad _) _;have HB0:=Aa hb0;have HO:Hid ((w.alloc (.cells #[] 74)).ownsRow w.heap.size 74 3 (.slice (some (Φ w.heap.size)) 0 0) 0 []):=Aa (Acz (heap_alloc_new _ _) (Ad _));clear hb0 hr hG hs;go_enter func88,ntmps88
   go_wp2_with(at_builtin;refine JM rfl (.tmp 5) (.tmp 6) 53 rfl Tryz.qp U w.heap.size (.slice (some (Φ w.heap.size)) 0 0) 0 [] rfl HO.out (some a) s.length c (FQ s) rfl (Rd.below HR.out HB0.out) (ay s) (Ω HC.out) U Θ ?_;intro v' w' hO hB hK)
   go_ret;exact⟨_,rfl,by simpa using hO,HB0.out.trans hB⟩
def xO (A B : Option Addr) (n m c d : Nat) (a b : List UInt8) (w : World) (hn : n <= 4294967296) (_hm : m <= 4294967296) (ha : Bs w A n a) (hb : Bs w B m b) :
    Calls prog 157 #[.slice A n c, .slice B m d] w λe w' => e = .returned (.bool (decide (a = b))) /\ Dr w w' := by
  have hla := ha.len
  have hlb := hb.len
  by_cases hnm : n = m
  · subst hnm
    have t1 : ((n : Int) != (n : Int)) = false := by simp
    go_enter func157, ntmps157
    go_wp2
    go_loopw [13] (λi wr => ∃ k : Nat, k <= n /\ i = .int .i64 k /\ (∀ j (h1 : j < a.length) (h2 : j < b.length), j < k -> a[j] = b[j]) /\ Dr w wr) (λi _ => n - (intOf i).toNat)
    case atStart => exact ⟨0, BU _, rfl, λj _ _ h => absurd h O, Dr.refl _⟩
    case round =>
      obtain ⟨k, hk, rfl, heq, q, rfl⟩ := hrel
      by_cases hlt : k < n
      · obtain ⟨hq, p, off, rfl, hp, hc⟩ := ha.at hlt
        obtain ⟨hq2, p2, Aje, rfl, hp2, hc2⟩ := hb.at hlt
        by_cases he : a[k] = b[k]
        · have t2 : (((a[k].toNat : Int)) != (b[k].toNat : Int)) = false := by simp [he]
          have HE : Hid (∀ j (h1 : j < a.length) (h2 : j < b.length), j < k + 1 -> a[j] = b[j]) := Aa λj h1 h2 hj => by
            by_cases e : j = k
            · subst e; exact he
            · exact heq j h1 h2 O
          clear heq he
          go_wp2
          go_quiet (fail)
          go_wp2
          go_roundw
          case rel => exact ⟨k + 1, O, by go_num, HE.out, by first | exact Dr.one _ _ | exact Dr.two _ _ _⟩
          case measure => simp [intOf]; omega
        · have t2 : (((a[k].toNat : Int)) != (b[k].toNat : Int)) = true := by
            rw [bne_iff_ne]; intro e; exact he (UInt8.toNat_inj.1 O)
          have HD : Hid (decide (a = b) = false) := Aa (by rw [decide_eq_false_iff_not]; intro e; subst e; exact he rfl)
          clear heq he
          go_wp2
          go_quiet (fail)
          go_wp2
          go_ret
          exact ⟨by rw [HD.out]; rfl, by first | exact Dr.one _ _ | exact Dr.two _ _ _⟩
      · have hkn : k = n := O
        subst hkn
        have HD : Hid (decide (a = b) = true) := Aa (by
          rw [decide_eq_true_iff]
          apply List.ext_getElem O
          intro j h1 h2
          exact heq j h1 h2 O)
        clear heq
        go_wp2
        go_ret
        exact ⟨by rw [HD.out]; rfl, Dr.one _ _⟩
  · have t1 : ((n : Int) != (m : Int)) = true := by simp; omega
    have HD : Hid (decide (a = b) = false) := Aa (by rw [decide_eq_false_iff_not]; intro e; subst e; omega)
    go_enter func157, ntmps157
    go_wp2
    go_ret
    exact ⟨by rw [HD.out]; rfl, Dr.refl _⟩
def Aag(w:World)(o:Obj)(xs:List Value)(t:TypeId):CS ((w.alloc o).alloc (.cells xs.toArray t)) (w.heap.size+1) t xs:=by
 have:=heap_alloc_new (w.alloc o) (.cells xs.toArray t);rw [show(w.alloc o).heap.size=w.heap.size+1 by simp]at this;exact this
def XF.below{w w':World}{base:Nat}{v:Value}{x:Nd}(h:XF w base v x)(k:η w w'):XF w' base v x:=by
 obtain⟨A1,c1,A2,c2,A3,c3,e,h1,h2,h3⟩:=h;exact⟨A1,c1,A2,c2,A3,c3,e,own_below h1 k,own_below h2 k,own_below h3 k⟩
def PlV.len{w:World}{base:Nat}{cs:List Value}{p:Pl}(h:PlV w base cs p):cs.length=7:=by
 obtain⟨a,b,c,d,rfl,_⟩:=h;rfl
def WG.get{w:World}{base:Nat}:∀(vs:List (List Value))(ps:List Pl),WG w base vs ps->∀i(h:i<ps.length),∃cs,PlV w base cs ps[i]/\∀j,j<7->vs.flatten[7*i+j]? =cs[j]?
 | [],[],_,i,hi=>by simp at hi
 | [],_::_,h,_,_=>h.elim
 | _::_,[],h,_,_=>h.elim
 | c::vs,p::ps,h,0,hi=>⟨c,h.1,λj hj=>by
    have:=h.1.len;rw [KX,DI O];simp⟩
 | c::vs,p::ps,h,i+1,hi=>by
    obtain⟨cs,h1,h2⟩:=WG.get vs ps h.2 i (by simpa using hi);refine⟨cs,by simpa using h1,λj hj=> ?_⟩;have:=h.1.len;rw [KX,DZ O,<-h2 j hj];congr 1;omega
structure Aah(w:World)(base:Nat)(g i:Nat)(pl:Pl)(a b c d:Value):Prop where
 cells:∀j u,[a,b,c,d,.int .i64 pl.off,.int .u8 (pl.label.toNat:Int),.int .i64 pl.word][j]? =some u->w.cell? (Δ g (7*i+j))=some u
 nd:XF w base (.agg #[a,b,c,d]) pl.nd
def Oe.at{w:World}{base:Nat}{v:Value}{way:List Pl}(h:Oe w base v way)(h0:way≠[]):∃g c,v= .slice (some (Φ g)) way.length c/\way.length<=c/\base<=g/\g<w.heap.size/\
 ∀i(hi:i<way.length),∃a b c' d,Aah w base g i way[i] a b c' d:=by
 obtain⟨vs,ho,hp⟩:=h;rcases ho.2 with⟨_,h2⟩| ⟨g,cap,cur,h1,h2,h3,h4,h5,h6,h7⟩
 ·exact absurd (List.length_eq_zero_iff.1 h2) h0
 ·refine⟨g,cap,h1,h4,h2,(AB.1 h3).1,λi hi=> ?_⟩;obtain⟨cs,⟨a,b,c,d,rfl,hn⟩,hc⟩:=WG.get vs way hp i hi;refine⟨a,b,c,d,⟨λj u hj=> ?_,hn⟩⟩;have hj7:j<7:=by have:=(List.getElem?_eq_some_iff.1 hj).1;simpa using this
  rw [cell_of_row w g _ cur _ (0,0) h3,<-hj,<-hc j hj7,<-h7,CW,if_pos O];simp
def An2:Value:= .agg #[.slice none 0 0,.int .u64 0,.slice none 0 0,.slice none 0 0,.int .i64 0,.int .u8 0,.int .i64 0]
def Asd{w:World}{g:Nat}{e:TypeId}{a b c d k l m:Value}(h:CS w g e [a,b,c,d,k,l,m]):w.frozen? (Φ g)=false/\w.frozen? (Δ g 1)=false/\w.frozen? (Δ g 2)=false/\w.frozen? (Δ g 3)=false/\w.frozen? (Δ g 4)=false/\w.frozen? (Δ g 5)=false/\w.frozen? (Δ g 6)=false:=
 ⟨h.frozen 0,h.frozen 1,h.frozen 2,h.frozen 3,h.frozen 4,h.frozen 5,h.frozen 6⟩
def WL{Q:Ending->World->Prop}{W:World}{tmps:Array Value}{fn:Func}(hr:fn.results= #[.cell 4 214,.tmp 5])(g:Nat){a b c d k l m:Value}(h:CS W g 214 [a,b,c,d,k,l,m])(v:Value)(h2:tmps[4]? =some (Az g))(h3:tmps[5]? =some v)
 (hq:Q (.returned (.tuple #[.agg #[a,b,c,d,k,l,m],v])) W):bodyPost prog fn Q Exit.ret {tmps:=tmps,defers:=[]} W:=by
 obtain⟨y0,y1,y2,y3,y4,y5,y6⟩:=EI h;have hu:=run_underlying (P:=prog) underlying214;refine bodyPost_ret (v:= .tuple #[.agg #[a,b,c,d,k,l,m],v]) (by simp [results,hr,go_sem,h2,h3,y0,y1,y2,y3,y4,y5,y6]) rfl hq
def Ase{w W:World}{base g:Nat}{e:TypeId}{a0 a1 a2 a3 a4 a5 a6:Value}(h:CS W g e [a0,a1,a2,a3,a4,a5,a6])(hb:Below base w W)(hg:base<=g)(b0 b1 b2 b3 b4 b5 b6:Value):
 ∃W',W'=(((((((W.setCell (Φ g) b0).setCell (Δ g 1) b1).setCell (Δ g 2) b2).setCell (Δ g 3) b3).setCell (Δ g 4) b4).setCell (Δ g 5) b5).setCell (Δ g 6) b6)/\CS W' g e [b0,b1,b2,b3,b4,b5,b6]/\
 Below base w W'/\
 Kept W W' (some g):=
 ⟨_,rfl,((((((h.AZ 0 b0).AZ 1 b1).AZ 2 b2).AZ 3 b3).AZ 4 b4).AZ 5 b5).AZ 6 b6,
   ((((((hb.setCell (p:=Φ g) hg b0).setCell (p:=Δ g 1) hg b1).setCell (p:=Δ g 2) hg b2).setCell (p:=Δ g 3) hg b3).setCell (p:=Δ g 4) hg b4).setCell (p:=Δ g 5) hg b5).setCell (p:=Δ g 6) hg b6,
   ((((((Kept.AZ W g 0 b0).trans' (Kept.AZ _ g 1 b1)).trans' (Kept.AZ _ g 2 b2)).trans' (Kept.AZ _ g 3 b3)).trans' (Kept.AZ _ g 4 b4)).trans' (Kept.AZ _ g 5 b5)).trans' (Kept.AZ _ g 6 b6)⟩
def xP(way:List Pl)(rest:List UInt8)(base:Nat)(w:World)(e:Ending)(w':World):Prop:=
 η w w'/\match CZ way rest with
  | none=>e= .returned (.tuple #[An2,.bool false])
  | some last=>∃a b c d,e= .returned (.tuple #[.agg #[a,b,c,d,.int .i64 last.off,.int .u8 (last.label.toNat:Int),.int .i64 last.word],.bool true])/\XF w' base (.agg #[a,b,c,d]) last.nd
def Ht{w:World}{base c:Nat}{vw:Value}{way:List Pl}{A:Option Addr}{rest:List UInt8}(hW:Oe w base vw way)(hl:way.length<=1000000)(hp:∀pl∈way,pl.nd.pre.length<=1000)(hR:Bs w A rest.length rest)(hr:rest.length<=1000000):
 Calls prog 111 #[vw,.slice A rest.length c] w (xP way rest base w):=by
 have B0:CS (w.alloc (.cells #[.slice none 0 0,.int .u64 0,.slice none 0 0,.slice none 0 0,.int .i64 0,.int .u8 0,.int .i64 0] 214)) w.heap.size 214 [.slice none 0 0,.int .u64 0,.slice none 0 0,.slice none 0 0,.int .i64 0,.int .u8 0,.int .i64 0]:=heap_alloc_new _ _;have hb0:η w (w.alloc (.cells #[.slice none 0 0,.int .u64 0,.slice none 0 0,.slice none 0 0,.int .i64 0,.int .u8 0,.int .i64 0] 214)):=(Below.refl _ _).alloc (Ad _) _;by_cases h0:way=[]
 ·subst h0;obtain⟨Av,cv,hvw⟩:∃Av cv,vw= .slice Av 0 cv:=by
   obtain⟨vs,ho,_⟩:=hW;rcases ho.2 with⟨h1,_⟩| ⟨g,cap,cur,h1,_⟩
   ·exact⟨_,_,h1⟩
   ·exact⟨_,_,h1⟩
  subst hvw;have HV:Hid (CZ [] rest=none):=Aa rfl;clear hW hR hl;obtain⟨f0,f1,f2,f3,f4,f5,f6⟩:=Asd B0;obtain⟨y0,y1,y2,y3,y4,y5,y6⟩:=EI B0;go_enter func111,ntmps111
  go_wp2_with fail
  refine WL rfl w.heap.size B0 (.bool false) rfl rfl ⟨hb0,?_⟩;rw [HV.out];rfl
 ·obtain⟨g,cv,rfl,hcv,hbg,hgw,hat⟩:=hW.at h0;have hn0:0<way.length:=zx.2 h0;obtain⟨a,b,c',d',hwc⟩:=hat (way.length-1) O;have hlast:way.getLast? =some (way[way.length-1]' O):=by rw [List.getLast?_eq_getElem?,Af O]
  have aA:=Aa (hp (way[way.length-1]' O) (List.getElem_mem _));generalize way[way.length-1]' O=last at*;have MX:Hid (CZ way rest=if last.nd.pre=rest then some last else none):=Aa (by rw [CZ,hlast]);have t0:((way.length:Int)==0)=false:=by rw [beq_eq_false_iff_ne];omega
  obtain⟨m,hm⟩:∃m,m=way.length-1:=⟨_,rfl⟩;have hw1:IntKind.i64.wrap ((way.length:Int) -1)=(m:Int):=(wrap64 _ O O).trans O;have hx1:decide ((m:Int)<(way.length:Int))=true:=decide_eq_true O;have hx2:m<way.length:=O
  have hx3:(m:Int)<(way.length:Int):=O
  obtain⟨A1,p1,A2,p2,A3,p3,e,o1,o2,o3⟩:=hwc.nd;simp only [Value.agg.injEq]at e;simp at e;obtain⟨rfl,rfl,rfl,rfl⟩:=e;have HC:Hid (∀j v,[Ac A1 last.nd.pre.length p1,.int .u64 (last.nd.val.toNat:Int),.slice A2 last.nd.labels.length p2,.slice A3 last.nd.kids.length p3,.int .i64 last.off,.int .u8 (last.label.toNat:Int),.int .i64 last.word][j]? =some v->w.cell? (Δ g (7*m+j))=some v):=Aa (by rw [hm];exact hwc.cells);have HN:=Aa hwc.nd;have hz:∀j v,[Ac A1 last.nd.pre.length p1,.int .u64 (last.nd.val.toNat:Int),.slice A2 last.nd.labels.length p2,.slice A3 last.nd.kids.length p3,.int .i64 last.off,.int .u8 (last.label.toNat:Int),.int .i64 last.word][j]? =some v->(w.alloc (.cells #[.slice none 0 0,.int .u64 0,.slice none 0 0,.slice none 0 0,.int .i64 0,.int .u8 0,.int .i64 0] 214)).cell? (Δ g (m*7+j))=some v:=λj v hj=>by
   rw [hb0.cell (p:=Δ g (m*7+j)) hgw,GK];exact HC.out j v hj
  have z0:=hz 0 _ rfl;have z1:=hz 1 _ rfl;have z2:=hz 2 _ rfl;have z3:=hz 3 _ rfl;have z4:=hz 4 _ rfl;have z5:=hz 5 _ rfl;have z6:=hz 6 _ rfl;rw [Nat.add_zero]at z0;have HB0:=Aa B0;have Hb0:=Aa hb0;have HR:=Aa hR;clear hat hlast hW hwc o1 o2 o3 hm B0 hz HC hR hb0;go_enter func111,ntmps111
  go_wp2_with fail
  have B1:=HB0.out.ξ ((Below.refl _ _).alloc (Ad _) (.cells #[Ac A1 last.nd.pre.length p1,.int .u64 (last.nd.val.toNat:Int),.slice A2 last.nd.labels.length p2,.slice A3 last.nd.kids.length p3,.int .i64 last.off,.int .u8 (last.label.toNat:Int),.int .i64 last.word] 214));have B2:CS ((w.alloc (.cells #[.slice none 0 0,.int .u64 0,.slice none 0 0,.slice none 0 0,.int .i64 0,.int .u8 0,.int .i64 0] 214)).alloc (.cells #[Ac A1 last.nd.pre.length p1,.int .u64 (last.nd.val.toNat:Int),.slice A2 last.nd.labels.length p2,.slice A3 last.nd.kids.length p3,.int .i64 last.off,.int .u8 (last.label.toNat:Int),.int .i64 last.word] 214)) (w.heap.size+1) 214 [Ac A1 last.nd.pre.length p1,.int .u64 (last.nd.val.toNat:Int),.slice A2 last.nd.labels.length p2,.slice A3 last.nd.kids.length p3,.int .i64 last.off,.int .u8 (last.label.toNat:Int),.int .i64 last.word]:=Aag _ _ _ _;have hb2:=Hb0.out.alloc Hb0.out.size (.cells #[Ac A1 last.nd.pre.length p1,.int .u64 (last.nd.val.toNat:Int),.slice A2 last.nd.labels.length p2,.slice A3 last.nd.kids.length p3,.int .i64 last.off,.int .u8 (last.label.toNat:Int),.int .i64 last.word] 214);clear z0 z1 z2 z3 z4 z5 z6;generalize((w.alloc (.cells #[.slice none 0 0,.int .u64 0,.slice none 0 0,.slice none 0 0,.int .i64 0,.int .u8 0,.int .i64 0] 214)).alloc (.cells #[Ac A1 last.nd.pre.length p1,.int .u64 (last.nd.val.toNat:Int),.slice A2 last.nd.labels.length p2,.slice A3 last.nd.kids.length p3,.int .i64 last.off,.int .u8 (last.label.toNat:Int),.int .i64 last.word] 214))=W2 at*;obtain⟨A1',p1',A2',p2',A3',p3',e,o1,o2,o3⟩:=HN.out;simp only [Value.agg.injEq]at e;simp at e;obtain⟨⟨rfl,rfl⟩,⟨rfl,rfl⟩,⟨rfl,rfl⟩⟩:=e;refine(xO A1 A last.nd.pre.length rest.length p1 c last.nd.pre rest W2 (Ω aA.out) O (CP (own_below o1 hb2)).2 (HR.out.below hb2)).mono ?_;clear o1 o2 o3;rintro e w3⟨rfl,hd3⟩;have hb3:=τ hb2 (hd3.below W2.heap.size);replace B1:=B1.ξ (hd3.below _);replace B2:=B2.ξ (hd3.below _);clear hb2 hd3 HR;obtain⟨f0,f1,f2,f3,f4,f5,f6⟩:=Asd B1;obtain⟨y0,y1,y2,y3,y4,y5,y6⟩:=EI B1;obtain⟨z0,z1,z2,z3,z4,z5,z6⟩:=EI B2;have hg1:w.heap.size≠w.heap.size+1:=O
  by_cases he:last.nd.pre=rest
  ·have HV:Hid (CZ way rest=some last):=Aa (by rw [MX.out,if_pos he]);have hd:decide (last.nd.pre=rest)=true:=decide_eq_true he;rw [hd];clear MX hd he;have HB:=Aa B1;have Hb:=Aa hb3;clear B1 B2 hb3 HB0 Hb0
   go_wp2_with fail
   obtain⟨W9,VW,BF,Ld, -⟩:=Ase HB.out Hb.out (Ad _) (Ac A1 last.nd.pre.length p1) (.int .u64 (last.nd.val.toNat:Int)) (.slice A2 last.nd.labels.length p2) (.slice A3 last.nd.kids.length p3) (.int .i64 last.off) (.int .u8 (last.label.toNat:Int)) (.int .i64 last.word);rw [<-VW];refine WL rfl w.heap.size BF (.bool true) rfl rfl ⟨Ld,?_⟩;rw [HV.out];exact⟨_,_,_,_,rfl,HN.out.below Ld⟩
  ·have HV:Hid (CZ way rest=none):=Aa (by rw [MX.out,if_neg he]);have hd:decide (last.nd.pre=rest)=false:=decide_eq_false he;rw [hd];clear MX hd he;have HB:=Aa B1;have Hb:=Aa hb3;clear B1 B2 hb3 HB0 Hb0 z0 z1 z2 z3 z4 z5 z6
   go_wp2_with fail
   obtain⟨W9,VW,BF,Ld, -⟩:=Ase HB.out Hb.out (Ad _) (.slice none 0 0) (.int .u64 0) (.slice none 0 0) (.slice none 0 0) (.int .i64 0) (.int .u8 0) (.int .i64 0);rw [<-VW];refine WL rfl w.heap.size BF (.bool false) rfl rfl ⟨Ld,?_⟩;rw [HV.out];rfl
def D5(w w':World):Prop:=w.heap.size<=w'.heap.size/\∀(g:Nat)(cs:Array Value)(e:TypeId)(fz:Nat×Nat),(e=5\/e=28\/e=212)->w.heap[g]? =some (Obj.cells cs e fz)->w'.heap[g]? =w.heap[g]?
def D5.refl(w:World):D5 w w:=⟨Ad _,λ_ _ _ _ _ _=>rfl⟩
def D5.of_below{w w':World}(h:η w w'):D5 w w':=⟨h.size,λg _ _ _ _ hg=>h.block g (AB.1 hg).1⟩
def D5.trans{a b c:World}(h:D5 a b)(k:D5 b c):D5 a c:=
 ⟨Bc h.1 k.1,λg cs e fz he hg=>by
  have h1:=h.2 g cs e fz he hg;exact(k.2 g cs e fz he (h1.trans hg)).trans h1⟩
def D5.Akg{w w':World}{g:Nat}(h:Kept w w' (some g))(hg:∀(cs:Array Value)(e:TypeId)(fz:Nat×Nat),(e=5\/e=28\/e=212)->w.heap[g]?≠some (Obj.cells cs e fz)):D5 w w':=
 ⟨h.1,λg' cs e fz he hg'=>h.2 g' (AB.1 hg').1 (λe'=>by injection e' with e';subst e';exact hg cs e fz he hg')⟩
def D5.own{w w':World}{base k n:Nat}{e:TypeId}{v:Value}{xs:List Value}(h:D5 w w')(he:e=5\/e=28\/e=212)(ho:w.ownsRow base e k v n xs):w'.ownsRow base e k v n xs:=by
 refine⟨ho.1,?_⟩;rcases ho.2 with h1| ⟨g,cap,cur,h1,h2,h3,h4⟩
 ·exact .inl h1
 ·exact .inr ⟨g,cap,cur,h1,h2,(h.2 g _ _ _ he h3).trans h3,h4⟩
def D5.nd{w w':World}{base:Nat}{v:Value}{x:Nd}(s:D5 w w')(h:XF w base v x):XF w' base v x:=by
 obtain⟨A1,c1,A2,c2,A3,c3,e,h1,h2,h3⟩:=h;exact⟨A1,c1,A2,c2,A3,c3,e,s.own (.inl rfl) h1,s.own (.inl rfl) h2,s.own (.inr (.inl rfl)) h3⟩
def D5.box{w w':World}{g:Nat}{xs:List Value}(s:D5 w w')(h:CS w g 212 xs):CS w' g 212 xs:=(s.2 g _ _ _ (.inr (.inr rfl)) h).trans h
def LH(w:World)(A:Option Addr)(l:List UInt8):Prop:=
 Bs w A l.length l/\(∀a,A=some a->∃(g:Nat)(cs:Array Value)(fz:Nat×Nat),a=(Φ g)/\w.heap[g]? =some (Obj.cells cs 5 fz))/\(A=none->l=[])
def LH.nil(w:World):LH w none []:=by
 refine⟨Rd.nil,?_,λ_=>rfl⟩;intro a e;cases e
def LH.keep{w w':World}{A:Option Addr}{l:List UInt8}(h:LH w A l)(s:D5 w w'):LH w' A l:=by
 obtain⟨h1,h2,h3⟩:=h;refine⟨⟨h1.1,λhn=> ?_⟩,λa e=> ?_,h3⟩
 ·obtain⟨b,off,e,hb,hc⟩:=h1.2 hn;obtain⟨g,cs,fz,e2,hg⟩:=h2 _ e;injection e2 with e3 e4
  subst e3 e4;exact⟨_,_,e,BQ hb s.1,λj hj=>(BA (w:=w) (s.2 _ _ _ _ (.inl rfl) hg)).trans (hc j hj)⟩
 ·obtain⟨g,cs,fz,e2,hg⟩:=h2 a e;exact⟨g,cs,fz,e2,(s.2 _ _ _ _ (.inl rfl) hg).trans hg⟩
def LH.cut{w w':World}{A A':Option Addr}{l m:List UInt8}(h:LH w A l)(hr:Rd w' A' (l.length+m.length) (l.map bv++m.map bv))(hb:η w w')(hc:zU w w' 5 A A' m.length):LH w' A' (l++m):=by
 refine⟨?_,λa e=> ?_,λe=> ?_⟩
 ·rw [AQ];show Rd w' A' _ ((l++m).map bv);rw [Dx];exact hr
 ·rcases hc with⟨rfl,_⟩| ⟨g,cs,e1,_,e3⟩
  ·obtain⟨g,cs,fz,e2,hg⟩:=h.2.1 a e;exact⟨g,cs,fz,e2,(hb.block _ (AB.1 hg).1).trans hg⟩
  ·rw [e1]at e;injection e with e
   exact⟨g,cs,_,e.symm,e3⟩
 ·rcases hc with⟨rfl,e2⟩| ⟨g,cs,e1,_⟩
  ·rw [h.2.2 e,List.eq_nil_of_length_eq_zero e2];rfl
  ·rw [e1]at e;exact nomatch e
def itV(p:List UInt8×UInt64):List Value:=[.string ⟨p.1.toArray⟩,.int .u64 (p.2.toNat:Int)]
structure EE(w:World)(base sb mb x:Nat)(items:List (List UInt8×UInt64))(met:List Int)(v:Value):Prop where
 box:CS w sb 174 [Az x,v,.map (some mb)]
 row:w.ownsRow base 104 2 v items.length (items.map itV).flatten
 map:KN w mb (met.map λo=>(o,1))
 bs:base<=sb
 bm:base<=mb
 vs:v.ownBlock≠some sb
 xQ:met.Nodup
 rng:∀o∈met,0<=o/\o<=65536
 len:items.length<=met.length
def PH:∀(N:Nat)(l:List Int),l.Nodup->(∀o∈l,0<=o/\o<(N:Int))->l.length<=N
 | 0,l,_,h=>by
   cases l with
   | nil=>simp
   | cons a t=>have:=h a (List.mem_cons_self ..);omega
 | N+1,l,hn,h=>by
   by_cases hm:(N:Int)∈l
   ·have h1:=PH N (l.erase (N:Int)) (hn.erase _) (λo ho=>by
    have:=(hn.mem_erase_iff).1 ho;have:=h o this.2;omega)
    rw [List.length_erase_of_mem hm]at h1;omega
   ·have:=PH N l hn (λo ho=>by
    have h2:=h o ho;have:o≠(N:Int):=λe=>hm (e▸ho)
    omega)
    omega
section
variable{w w':World}{base sb mb x:Nat}{items:List (List UInt8×UInt64)}{met:List Int}{v:Value}
def EE.few(h:EE w base sb mb x items met v):items.length<=65537:=
 Bc h.len (PH 65537 met h.xQ (λo ho=>Ω (h.rng o ho)))
def EE.sm(h:EE w base sb mb x items met v):sb≠mb:=by
 intro e;have h1:=h.box;have h2:=h.map;unfold CS at h1;unfold KN at h2;rw [e,h2]at h1;injection h1 with h1
 cases h1
def EE.vm(h:EE w base sb mb x items met v):v.ownBlock≠some mb:=by
 intro e;rcases h.row.2 with⟨h1,_⟩| ⟨g,cap,cur,h1,_,h3,_⟩
 ·subst h1;exact nomatch e
 ·subst h1;simp only [Bd,Option.some.injEq]at e;subst e;have h2:=h.map;unfold KN at h2;rw [h2]at h3;injection h3 with h3
  cases h3
def EE.below(h:EE w base sb mb x items met v)(k:η w w'):EE w' base sb mb x items met v:=
 ⟨h.box.ξ k,EU h.row (Kept.of_below (r:=some sb) k) (.inl (λe=>h.vs e.symm)),h.map.below k,h.bs,h.bm,h.vs,h.xQ,h.rng,h.len⟩
def EE.note(h:EE w base sb mb x items met v){o:Int}(ho:0<=o/\o<=65536)(hn:o∉met):EE (Ef w mb (Ik 0 ((met++[o]).map λo=>(o,1))).toArray ((met++[o]).map λo=>(o,(1:Int))).length) base sb mb x items (met++[o]) v/\
 D5 w (Ef w mb (Ik 0 ((met++[o]).map λo=>(o,1))).toArray ((met++[o]).map λo=>(o,(1:Int))).length)/\Below base w (Ef w mb (Ik 0 ((met++[o]).map λo=>(o,1))).toArray ((met++[o]).map λo=>(o,(1:Int))).length):=by
 have hne:∀(cs:Array Value)(e:TypeId)(fz:Nat×Nat),w.heap[mb]?≠some (Obj.cells cs e fz):=λcs e fz hg=>by
  have h2:=h.map;unfold KN at h2;rw [h2]at hg;injection hg with hg
  cases hg
 have t:=Iy w mb (Ik 0 ((met++[o]).map λo=>(o,1))).toArray ((met++[o]).map λo=>(o,(1:Int))).length;refine⟨⟨h.box.touch t h.sm,Ie h.row t (λg hg e=>h.vm (by rw [hg,e])),L9 _ _ _ _ h.map.lt,h.bs,h.bm,h.vs,?_,?_,?_⟩,⟨t.size,λg cs e fz _ hg=>t.block g (AB.1 hg).1 (λe'=>hne cs e fz (e'▸hg))⟩,t.below (IW (Hw h.bm h.map.lt)) (λk e=>e▸h.bm)⟩
 ·exact CE.2 ⟨h.xQ,Hz.2 ⟨by simp,UT⟩,λa ha b hb=>by rw [BD]at hb;subst hb;exact λe=>hn (e▸ha)⟩
 ·intro a ha;rcases AL.1 ha with h1| h1
  ·exact h.rng a h1
  ·rw [BD]at h1;exact h1▸ho
 ·have:=h.len;simp;omega
def EE.add(h:EE w base sb mb x items met v)(p:List UInt8×UInt64)(hl:items.length<met.length){g6 c6:Nat}{w6:World}
 (hO:w6.ownsRow base 104 2 (.slice (some (Φ g6)) (items.length+1) c6) (items.length+1) ((items.map itV).flatten++itV p))(hB:Below base w w6)(hK:Kept w w6 v.ownBlock)(hg:v.ownBlock=some g6\/w.heap.size<=g6):
 EE (w6.setCell (Δ sb 1) (.slice (some (Φ g6)) (items.length+1) c6)) base sb mb x (items++[p]) met (.slice (some (Φ g6)) (items.length+1) c6)/\
  D5 w (w6.setCell (Δ sb 1) (.slice (some (Φ g6)) (items.length+1) c6))/\Below base w (w6.setCell (Δ sb 1) (.slice (some (Φ g6)) (items.length+1) c6)):=by
 have hsl:=h.box.lt;have hml:=h.map.lt;have hgs:g6≠sb:=by
  rintro rfl;rcases hg with e| e
  ·exact h.vs e
  ·omega
 have B6:CS w6 sb 174 [Az x,v,.map (some mb)]:=(hK.2 sb hsl (λe=>h.vs e.symm)).trans h.box;have M6:w6.heap[mb]? =w.heap[mb]? :=hK.2 mb hml (λe=>h.vm e.symm);have k9:=Kept.AZ w6 sb 1 (.slice (some (Φ g6)) (items.length+1) c6);have s6:D5 w w6:=by
  refine⟨hK.1,λg cs e fz he hg'=>hK.2 g (AB.1 hg').1 (λe'=> ?_)⟩;rcases h.row.2 with⟨h1,_⟩| ⟨g',cap,cur,h1,_,h3,_⟩
  ·subst h1;exact nomatch e'
  ·subst h1;simp only [Bd,Option.some.injEq]at e';subst e';rw [hg']at h3;injection h3 with h3
   injection h3 with _ h4
   rw [h4]at he;exact absurd he U
 have s9:D5 w6 (w6.setCell (Δ sb 1) (.slice (some (Φ g6)) (items.length+1) c6)):=D5.Akg k9 (λcs e fz he hg'=>by
  have h3:w6.heap[sb]? =_:=B6;rw [hg']at h3;injection h3 with h3
  injection h3 with _ h4
  rw [h4]at he;exact absurd he U)
 refine⟨⟨B6.AZ 1 _,?_,?_,h.bs,h.bm,by simp [Bd,hgs],h.xQ,h.rng,by simp;omega⟩,s6.trans s9,hB.setCell (p:=Δ sb 1) h.bs _⟩
 ·have:=EU hO k9 (.inl (by simp [Bd,Ne.symm hgs]));simpa using this
 ·show(w6.setCell _ _).heap[mb]? =_;rw [k9.2 mb (BQ hml hK.1) (λe=>h.sm (Option.some.inj e).symm),M6];exact h.map
end
structure MB(s:St)(l:List Lk):Prop where
 xQ:(l.map (·.off)).Nodup
 at_:∀k∈l,0<=k.off/\k.off<=65536/\D7 s k.off=1/\Nq (wordsAt s.ws (k.off.toNat/8) 8)=some k.rc/\EG l<=k.rc.stamp.toNat
def MB.nil(s:St):MB s []:=⟨UT,λ_ h=>nomatch h⟩
def GH(l:List Lk)(k:Lk):EG (l++[k])=k.rc.stamp.toNat:=by
 unfold EG;rw [List.getLast?_append];rfl
def MB.step{s:St}{l:List Lk}(h:MB s l){off:Int}{r:Rc}(ho:0<=off/\off<=65536)(hc:D7 s off=1)(hd:Nq (wordsAt s.ws (off.toNat/8) 8)=some r)(hs:r.stamp.toNat<EG l):MB s (l++[⟨off,r⟩]):=by
 refine⟨?_,λk hk=> ?_⟩
 ·rw [Dx];refine CE.2 ⟨h.xQ,by simp,λa ha b hb=> ?_⟩;rw [List.map_singleton,BD]at hb;subst hb;rintro rfl;obtain⟨k,hk,e⟩:=Ba.1 ha;obtain⟨_,_,_,h3,h4⟩:=h.at_ k hk;rw [e,hd]at h3;injection h3 with h3
  rw [<-h3]at h4;omega
 ·rw [GH];rcases AL.1 hk with hk| hk
  ·obtain⟨h1,h2,h3,h4,h5⟩:=h.at_ k hk;exact⟨h1,h2,h3,h4,by show r.stamp.toNat<=_;omega⟩
  ·rw [BD]at hk;subst hk;exact⟨ho.1,ho.2,hc,hd,Ad _⟩
def MB.few{s:St}{l:List Lk}(h:MB s l):l.length<=65537:=by
 have:=PH 65537 (l.map (·.off)) h.xQ (λo ho=>by
  obtain⟨k,hk,rfl⟩:=Ba.1 ho;obtain⟨h1,h2,_⟩:=h.at_ k hk;omega)
 rwa [BJ]at this
def Ac0{L:Nat}{s:St}{off:Int}(ok:dJ L s.sh)(hn:s.tk.length=s.sh.BM)(hL:L<=1024)(h:D7 s off=1):0<=off/\off<=65536/\off=((8*(off.toNat/8):Nat):Int)/\off.toNat/8+8<=8*L:=by
 obtain⟨i,a,hi,ho,_,hfit⟩:=V8 (s:=s) (off:=off) (by rw [h];decide);rw [h]at ho hfit;simp only [Bf]at ho hfit;have:=ok.data;have:=ok.fits;have:=ok.BM;rw [hn]at hi;omega
def Tryz.Akh:JS prog 99 104 (.agg #[.string ⟨#[]⟩,.int .u64 0]) 2 24:=⟨underlying99,by kernel_rfl,rfl⟩
def Tryz.Ko:prog.underlying 172=some (.map 3 3):=underlying172
def Tryz.YD(W:World):(zeroValue 3).run prog W= .ok (.int .i64 0) W:=by
 have h:(prog.info? 3).map (·.zero)=some (some (.int .i64 0)):=by kernel_rfl
 cases hi:prog.info? 3 with
 | none=>rw [hi]at h;cases h
 | some i=>
   rw [hi]at h;simp only [Option.map_some,Option.some.injEq]at h;simp [zeroValue,typeInfo,hi,h]
def ND(r:Option (List (List UInt8×UInt64)×List Int))(base sb mb x:Nat)(w:World)(e:Ending)(w':World):Prop:=
 Below base w w'/\D5 w w'/\match r with
  | none=>e= .returned (.int .i64 5)
  | some (items',met')=>e= .returned (.int .i64 0)/\∃v',EE w' base sb mb x items' met' v'
section
variable{len:Mode}{w w':World}{base sb mb x d p L:Nat}{s:St}{F:Nat->Prop}
def Jd.past(h:Jd len w x d p L s F)(k:Below base w w')(hF:∀b,F b->b<base)(hx:x<base)(ht:0<base/\1<base):Jd len w' x d p L s F:=by
 have t:Touch (λb=>base<=b) w w':=⟨k.os,k.tape,k.output,k.size,λb _ hn=>k.block b O⟩;exact⟨h.sys.keep t (λb hb hn=>Ω (hF b hb)) O O,h.box.touch t O,h.out⟩
def gX{o:Int}:∀{l:List Int},o∈l->l.Nodup->∃l1 l2,l=l1++o::l2/\o∉l1
 | [],h,_=>by cases h
 | a::t,h,hn=>by
   obtain⟨h1,h2⟩:=Hz.1 hn;rcases CJ.1 h with rfl| ho
   ·exact⟨[],t,rfl,by simp⟩
   ·obtain⟨l1,l2,e,hno⟩:=gX ho h2;refine⟨a::l1,l2,by rw [e];rfl,λhm=> ?_⟩;rcases CJ.1 hm with rfl| hm
    ·exact h1 ho
    ·exact hno hm
def xR(h:Jd len w x d p L s F)(_:∀b,F b->b<base){items:List (List UInt8×UInt64)}{met:List Int}{v:Value}(hs:EE w base sb mb x items met v)(f:Nat)(name:UInt64)(ahead:List UInt8)(A:Option Addr)(c:Nat)(hr:Fb s name=none):
 Calls prog 122 #[Az sb,.int .u64 (name.toNat:Int),.slice A ahead.length c] w (ND (Dq s (f+1) name ahead (items,met)) base sb mb x w):=by
 have HP:Hid (Dq s (f+1) name ahead (items,met)=none):=Aa (by rw [Dq,hr]);have HR:=Aa (JX h name);have HRn:=Aa hr;have y0:=hs.box.p1;have hbs:base<=w.heap.size:=IW (Hw hs.bs hs.box.lt);clear h hs hr;go_enter func122,ntmps122
 go_wp2_with fail
 refine HR.out.mono ?_;rintro e w1⟨hb1,hp1⟩;rw [HRn.out]at hp1;subst hp1;have HB:=Aa (hb1.mono hbs);have nG:=Aa (D5.of_below hb1);clear hb1 HR
 go_wp2_with fail
 go_ret;refine⟨HB.out.alloc (Bc hbs HB.out.size) _,nG.out.trans (D5.of_below ((Below.refl _ _).alloc (Ad _) _)),?_⟩;rw [HP.out];rfl
def Ac1(h:Jd len w x d p L s F)(_:∀b,F b->b<base){items:List (List UInt8×UInt64)}{met:List Int}{v:Value}(hs:EE w base sb mb x items met v)(f:Nat)(name:UInt64)(ahead:List UInt8)(A:Option Addr)(c:Nat)(hA:LH w A ahead)(hac:ahead.length<=c)(hal:ahead.length<=33)(nd:Nd)(hr:Fb s name=some nd)(hm:Bj name∈met):
 Calls prog 122 #[Az sb,.int .u64 (name.toNat:Int),.slice A ahead.length c] w (ND (Dq s (f+1) name ahead (items,met)) base sb mb x w):=by
 have HP:Hid (Dq s (f+1) name ahead (items,met)=none):=Aa (by rw [Dq,hr];simp only;rw [if_pos (.inl (by simpa using hm))]);have HR:=Aa (JX h name);have HRn:=Aa hr;have HS:=Aa hs;have hwr:IntKind.i64.wrap (name.toNat:Int)=Bj name:=rfl;have hbl:=(FO hr).1;have y0:=hs.box.p1;have hbs:base<=w.heap.size:=IW (Hw hs.bs hs.box.lt);obtain⟨l1,l2,hl,hno⟩:=gX hm hs.xQ;have HL:=Aa hl;have Tn:Hid (∀q∈l1.map (λo=>(o,(1:Int))),q.1≠Bj name):=Aa (λq hq=>by
  obtain⟨o,ho,rfl⟩:=Ba.1 hq;exact λe=>hno (e▸ho))
 have HA:=Aa hA;generalize Bj name=off at*;clear h hs hr hm hl hno hA;go_enter func122,ntmps122
 go_wp2_with fail
 refine HR.out.mono ?_;rintro e w1⟨hb1,hp1⟩;rw [HRn.out]at hp1;obtain⟨vn,rfl,hnd⟩:=hp1;obtain⟨A1,c1,A2,c2,A3,c3,rfl,o1,o2,o3⟩:=hnd;obtain⟨W2,hW2,Ha,BN⟩:=EZ w1 212 [.slice A1 nd.pre.length c1,.int .u64 (nd.val.toNat:Int),.slice A2 nd.labels.length c2,.slice A3 nd.kids.length c3];have hb2:η w W2:=τ hb1 Ha;have S2:=HS.out.below hb2;have hmap:KN W2 mb (l1.map (λo=>(o,(1:Int)))++(off,1)::l2.map (λo=>(o,(1:Int)))):=by
  have:=S2.map;rw [HL.out]at this;simpa using this
 have k1:=Pz Tryz.Ko underlying3 W2 mb _ _ off 1 hmap Tn.out;have k2:=Ajz Tryz.Ko underlying3 W2 mb _ _ off 1 2 hmap Tn.out;obtain⟨W3,hW3⟩:∃W3,W3=Ef W2 mb (Ik 0 (l1.map (λo=>(o,(1:Int)))++(off,2)::l2.map (λo=>(o,(1:Int))))).toArray (l1.map (λo=>(o,(1:Int)))++(off,2)::l2.map (λo=>(o,(1:Int)))).length:=⟨_,rfl⟩;rw [<-hW3]at k2;have t3:Touch (λb=>b=mb) W2 W3:=hW3▸Iy _ _ _ _;have hm3:KN W3 mb (l1.map (λo=>(o,(1:Int)))++(off,2)::l2.map (λo=>(o,(1:Int)))):=by rw [hW3];exact L9 _ _ _ _ hmap.lt
 have hk3:D5 W2 W3:=⟨t3.size,λg cs e fz _ hg=>t3.block g (AB.1 hg).1 (λe'=>by
  unfold KN at hmap;rw [e',hmap]at hg;injection hg with hg
  cases hg)⟩
 have Gn:Below base W2 W3:=t3.below (Bc hbs hb2.size) (λk e=>e▸S2.bm);have nH:=hk3.box BN;have HA3:=(HA.out.keep (D5.of_below hb2)).keep hk3;have hpre:Rd W3 A1 nd.pre.length (nd.pre.map bv):=(CP (hk3.own (.inl rfl) (own_below o1 Ha))).2;have S3:CS W3 sb 174 [Az x,v,.map (some mb)]:=S2.box.touch t3 S2.sm;clear hW3;have z0:=S2.box.cell 0;have z2:=S2.box.cell 2;simp only [Am,AA]at z0 z2;rw [hW2]at k1 k2 z0 z2;have HW2:=Aa hW2;clear y0 HR hW2
 go_wp2_with fail
 obtain⟨n0,n1,n2,n3, -⟩:=CG nH;have HB3:=Aa ((hb2.mono hbs).trans Gn);have OC:=Aa ((D5.of_below hb2).trans hk3);have HM3:=Aa hm3;have Ph:=Aa S3;have HR3:=Aa HA3;have kK:=Aa hpre;clear k1 k2 z0 z2 hb1 Ha hb2 S2 hmap t3 hk3 Gn BN nH HA3 hpre o1 o2 o3 hm3 S3
 go_region_law(refine Jt rfl (.tmp 42) (.tmp 44) 22 rfl Tryz.Gq A ahead.length (ahead.map bv) (by simp [Act.eval]) (by exact HR3.out.1) (λa e=>by obtain⟨g,_,_,e',_⟩:=HR3.out.2.1 a e;exact⟨g,e'⟩) (λe=>by rw [HR3.out.2.2 e];rfl) A1 nd.pre.length c1 (nd.pre.map bv) (by simp [Act.eval]) (by exact kK.out) (Hm _) O U ?_;intro A4 c4 w4 hc4 hr4 hb4 PI)
 all_goals(have GI:η W3 w4:=((Dr.drew W3).below _).trans hb4)
 all_goals(have k5:=Pz Tryz.Ko underlying3 w4 mb _ _ off 2 (HM3.out.below GI) Tn.out)
 all_goals(have S4:=Ph.out.ξ GI)
 all_goals(have z0:=S4.cell 0)
 all_goals(have z2:=S4.cell 2)
 all_goals(simp only [Am,AA]at z0 z2)
 all_goals(have HB4:=Aa (HB3.out.trans (GI.mono (Bc hbs (by have:=HB3.out.size;exact this)))))
 all_goals(have qx:=Aa (OC.out.trans (D5.of_below GI)))
 all_goals(clear GI hb4 PI hr4 S4 HM3 Ph HR3 kK n0 n1 n2 n3 HA Tn HL HS)
 all_goals(go_wp2_with fail)
 all_goals(go_ret)
 all_goals(refine⟨HB4.out,qx.out,?_⟩)
 all_goals(rw [HP.out])
 all_goals rfl
end
def xU(sh:Sh)(ky tx:ByteArray):Bool:=
 (match CO (st0 sh) 1 with
  | none=>false
  | some (off,s1)=>decide ((Ib {s1 with ws:=BO s1.ws (off/8) (Dj ⟨1,0,false,tx⟩)} off).2=0))&&
 (decide ((IZ (st0 sh) ⟨1,0,false,tx⟩).2.2=0)&&decide ((KJ (IZ (st0 sh) ⟨1,0,false,tx⟩).1 ky.data.toList (IZ (st0 sh) ⟨1,0,false,tx⟩).2.1).2=0))
def one1(sh:Sh)(tx:ByteArray):St:=(IZ (st0 sh) ⟨1,0,false,tx⟩).1
def OD(sh:Sh)(tx:ByteArray):UInt64:=(IZ (st0 sh) ⟨1,0,false,tx⟩).2.1
def TI(sh:Sh)(ky tx:ByteArray):St:=(KJ (one1 sh tx) ky.data.toList (OD sh tx)).1
def Ag2{sh:Sh}{ky tx:ByteArray}(h:xU sh ky tx=true):∀off s1,CO (st0 sh) 1=some (off,s1)->(Ib {s1 with ws:=BO s1.ws (off/8) (Dj ⟨1,0,false,tx⟩)} off).2=0:=by
 intro off s1 hr;unfold xU at h;rw [hr]at h;rw [Bool.and_eq_true]at h;exact of_decide_eq_true h.1
def one_add{sh:Sh}{ky tx:ByteArray}(h:xU sh ky tx=true):IZ (st0 sh) ⟨1,0,false,tx⟩=(one1 sh tx,OD sh tx,0):=by
 unfold xU at h;rw [Bool.and_eq_true,Bool.and_eq_true]at h;have h2:(IZ (st0 sh) ⟨1,0,false,tx⟩).2.2=0:=of_decide_eq_true h.2.1;unfold one1 OD;rw [<-h2]
def Aai{sh:Sh}{ky tx:ByteArray}(h:xU sh ky tx=true):KJ (one1 sh tx) ky.data.toList (OD sh tx)=(TI sh ky tx,0):=by
 unfold xU at h;rw [Bool.and_eq_true,Bool.and_eq_true]at h;have h2:(KJ (one1 sh tx) ky.data.toList (OD sh tx)).2=0:=of_decide_eq_true h.2.2;unfold TI;rw [<-h2]
def Aaj(sh:Sh)(ky:ByteArray)(hk:ky.size<=16):Gy (st0 sh) ky.data.toList=(0,7):=by
 have hk':¬16<ky.data.toList.length:=by simpa using hk
 have h9:(st0 sh).ws 9=0:=Iz sh 9 U;unfold Gy;rw [if_neg hk'];unfold FY;rw [h9,Ez,if_pos rfl];rfl
