import Derived.Test.YtkimaejoeapmnaaGreatDoorG14
set_option maxHeartbeats 32000000
set_option maxRecDepth 100000
open List renaming length_drop->AV,length_take->DC,getD_eq_getElem?_getD->Bh,getElem?_eq_getElem->Af,length_map->BH,getElem?_take->CS,map_cons->BU,flatten_cons->KE,getElem?_append_left->DD,getElem?_append_right->Ew,length_append->AQ,mem_map->Bf,mem_cons->CZ,length_pos_iff->xU,map_append->Dq,nodup_append->Cj,nodup_cons->Ht,nodup_nil->Ux,mem_singleton->BC,mem_append->AL,getElem?_cons_zero->Aj,getElem?_cons_succ->Az
open Nat renaming testBit_two_pow->Aae,mul_comm->Iw,le_refl->Ad,zero_le->BK,succ_mul->Aop,add_assoc->kG,lt_of_lt_of_le->Cf,le_trans->Bg,le_of_lt->IC,lt_of_le_of_lt->Hq
open Go.Lib renaming hid->Aa
open Go.Value renaming int->Au,slice->Ac,ownBlock->Ba
open Array renaming getElem?_eq_some_iff->AB
open Go.World renaming cell?_of_block->Bz
namespace Go.Proofs.YtkimaejoeapmnaaGreatDoor
open Go.RowKit
def Atv:Value:= .agg #[.int .u64 0,.int .u64 0,.bool false,.string ⟨#[]⟩]
def vP(l:List UInt64)(w:World)(e:Ending)(w':World):Prop:=
 Below w.heap.size w w'/\match KJ l with
  | none=>e= .returned (.tuple #[Atv,.bool false])
  | some r=>e= .returned (.tuple #[yP r,.bool true])
theorem XX{Q:Ending->World->Prop}{W:World}{tmps:Array Value}{fn:Func}(hr:fn.results= #[.cell 2 109,.tmp 3])(g:Nat){a b c d:Value}(h:CG W g 109 [a,b,c,d])(v:Value)(h2:tmps[2]? =some (Aw g))(h3:tmps[3]? =some v)
 (hq:Q (.returned (.tuple #[.agg #[a,b,c,d],v])) W):bodyPost Tryz.prog fn Q Exit.ret {tmps:=tmps,defers:=[]} W:=by
 obtain⟨y0,y1,y2,y3,f0,f1,f2,f3⟩:=C9 h;have hu:=run_underlying (P:=Tryz.prog) Tryz.underlying109;refine bodyPost_ret (v:= .tuple #[.agg #[a,b,c,d],v]) (by simp [results,hr,go_sem,h2,h3,y0,y1,y2,y3]) rfl hq
def Q5(l:List UInt64)(m k:Nat):List UInt8:=(leBytes (l.drop 3)).take k++List.replicate (m-k) 0
theorem dS(l:List UInt64)(m k:Nat)(hl:l.length=8)(hm:m<=40)(hk:k<=m):(Q5 l m k).length=m:=by
 unfold Q5;have:=leBytes_length (l.drop 3);simp at this;simp;omega
theorem vS(l:List UInt64)(m k:Nat)(hl:l.length=8)(hm:m<=40)(hk:k<m)(h3:3+k/8<l.length):(Q5 l m k).set k (leB l[3+k/8] (k%8))=Q5 l m (k+1):=by
 have hT:=leBytes_length (l.drop 3);rw [AV,hl]at hT;have hb:=Ii (l.drop 3) (k/8) (k%8) (by rw [AV];omega) (by omega);rw [show 8*(k/8)+k%8=k by omega,List.getElem_drop]at hb;unfold Q5;rw [List.set_append_right _ _ (by rw [DC];omega),DC,Nat.min_eq_left (by omega),Nat.sub_self];obtain⟨d,hd⟩:∃d,m-k=d+1:=⟨m-k-1,by omega⟩;rw [hd,show m- (k+1)=d by omega,List.replicate_succ,List.set_cons_zero,List.take_add_one,hb];simp
theorem Atw(n:Nat)(hn:n<18446744073709551616):(bits BinOp.and .u64 (n:Int) 256 !=0)=decide (n/256%2=1):=by
 have h:=u64_and_nat n 256 hn (by decide);rw [show((256:Nat):Int)=256 from rfl]at h;rw [h];have hb:n&&&256=if n.testBit 8 then 256 else 0:=by
  apply Nat.eq_of_testBit_eq;intro i;rw [Nat.testBit_and,show 256=2^8 from rfl,Aae];by_cases hi:8=i
  ·subst hi;cases n.testBit 8
   ·rfl
   ·decide
  ·rw [decide_eq_false hi,Bool.and_false];split
   ·rw [Aae,decide_eq_false hi]
   ·simp
 rw [hb,Nat.testBit_eq_decide_div_mod_eq];by_cases hd:n/2^8%2=1
 ·rw [if_pos (decide_eq_true hd),decide_eq_true (by simpa using hd)];rfl
 ·rw [if_neg (by rw [decide_eq_false hd];exact Bool.false_ne_true),decide_eq_false (by simpa using hd)];rfl
theorem byte_of(x:UInt64)(j:Nat):(x.toNat:Int)/2^(j*8)%256=((leB x j).toNat:Int):=by
 have:=lW x j;rw [Iw 8 j]at this;exact this
theorem Abn(l:List UInt64)(A:Option Addr)(c:Nat)(w:World)(_:8<=c)(h:Ws w A 8 l):Calls Tryz.prog 84 #[.slice A 8 c] w (vP l w):=by
 have hlen:=h.len;obtain⟨q0,b,off,rfl,hbl,c0⟩:=h.at (show 0<8 by decide);obtain⟨W,hW,hb,B⟩:=FB w 109 [.int .u64 0,.int .u64 0,.bool false,.string ⟨#[]⟩];obtain⟨n0,hn0⟩:∃n,n=l[0].toNat:=⟨_,rfl⟩;have Air:n0<18446744073709551616:=hn0▸UInt64.toNat_lt _;have hD0:(l.getD 0 0).toNat=n0:=by rw [hn0,Bh,Af q0];rfl
 rw [<-hn0]at c0;have HN0:=Aa hn0;have HD0:=Aa hD0;clear hn0 hD0;have d0:W.cell? ⟨b,off,none⟩=some (.int .u64 (n0:Int)):=by have:=(hb.cell (p:=⟨b,off+0,none⟩) hbl).trans c0;simpa using this
 have HW:=Aa hW;have HB:=Aa hb;have HK:=Aa B;obtain⟨y0,y1,y2,y3,f0,f1,f2,f3⟩:=C9 B;rw [hW]at d0 y0 y1 y2 y3 f0 f1 f2 f3;clear hb B hW;by_cases h40:40<n0/65536
 ·have t1:decide ((40:Int)<(n0:Int)/65536)=true:=decide_eq_true (by omega);have HV:Hid (KJ l=none):=Aa (by unfold KJ;rw [if_neg (by rintro⟨_,h⟩;rw [HD0.out]at h;omega)]);go_enter Tryz.func84,Tryz.ntmps84
  go_wp2_with fail
  rw [<-HW.out];refine XX rfl w.heap.size HK.out (.bool false) rfl rfl ⟨HB.out,?_⟩;rw [HV.out];rfl
 ·have t1:decide ((40:Int)<(n0:Int)/65536)=false:=decide_eq_false (by omega);obtain⟨m,hm⟩:∃m,m=n0/65536:=⟨_,rfl⟩;have Abp:m<=40:=by omega
  have hmk:∀W:World,(Instr.makeSlice 22 (.int .u64 ((n0:Int)/65536)) (.int .u64 ((n0:Int)/65536))).run Tryz.prog W= .ok (.slice (some ⟨W.heap.size,0,none⟩) m m) (W.alloc (.cells (madeCells (Au .u8 0).cells (m*1)) 5)):=fun W=>by
   obtain⟨i0,hi,hz0,hz1,hz2⟩:=info_parts Tryz.Gi.hi;have e:(n0:Int)/65536=(m:Int):=by omega
   rw [e];have:=run_make (P:=Tryz.prog) (w:=W) 22 5 i0 (.int .u8 0) Tryz.underlying22 hi hz0 .u64 .u64 (m:Int) (m:Int) (by omega) (by omega) (by rw [hz2];omega) (by omega);rw [hz1]at this;simpa using this
  obtain⟨W2,hW2⟩:∃W2,W2=W.alloc (.cells (madeCells (Au .u8 0).cells (m*1)) 5):=⟨_,rfl⟩;have hm1:=hmk W;rw [<-hW2]at hm1;obtain⟨tb,htb⟩:∃tb,tb=W.heap.size:=⟨_,rfl⟩;rw [<-htb]at hm1;have hWs:W.heap.size=w.heap.size+1:=by rw [HW.out];simp
  have B2:CG W2 tb 5 ((Q5 l m 0).map bv):=by
   have e:(Q5 l m 0).map bv=(madeCells (Au .u8 0).cells (m*1)).toList:=by rw [PD];simp [Q5]
   rw [e];unfold CG;rw [hW2,htb,Array.toArray_toList];exact heap_alloc_new _ _
  have hb2:Below tb W W2:=by rw [hW2,htb];exact(Below.refl _ _).alloc (Ad _) _
  have HB2:=Aa B2;have Hb2:=Aa hb2;have HM:=Aa hm;have HTB:Hid (tb=w.heap.size+1):=Aa (by omega);have Awd:=Aa htb;rw [HW.out]at hm1;clear B2 hb2 hW2 hmk hm htb hWs;go_enter Tryz.func84,Tryz.ntmps84
  go_wp2_with fail
  go_loopw [27](fun i wr=>∃k:Nat,k<=m/\i= .int .i64 (k:Nat)/\CG wr tb 5 ((Q5 l m k).map bv)/\Below tb W wr)(fun i _=>m- (intOf i).toNat)
  case atStart=>exact⟨0,BK _,rfl,HB2.out,Hb2.out⟩
  case round=>
   obtain⟨k,hk,rfl,hrow,hbr⟩:=hrel;have nT:=Aa hrow;have Ob:=Aa hbr;have nU:=Aa (HB.out.trans (hbr.mono (by have:=HTB.out;omega)));clear hrow hbr;by_cases hlt2:k<m
   ·have hk8:3+k/8<8:=by omega
    obtain⟨hq,b',off',e',_,hcell⟩:=(h.below nU.out).at hk8;injection e' with e'
    injection e' with e1 e2
    subst e1 e2;have hlen2:=dS l m k hlen Abp (by omega);obtain⟨v0,hv0⟩:∃v,wr.cell? ⟨tb,k,none⟩=some v:=⟨_,nT.out.has (i:=k) (by rw [BH];omega)⟩;have hfz:=nT.out.frozen k;have Ai0:=Aa (byte_of l[3+k/8] (k%8));have Ai1:Hid (CG (wr.setCell ⟨tb,k,none⟩ (.int .u8 ((leB l[3+k/8] (k%8)).toNat:Int))) tb 5 ((Q5 l m (k+1)).map bv)):=Aa (by
     rw [<-vS l m k hlen Abp hlt2 hq,List.map_set];exact nT.out.AZ k _)
    have HNb:Hid (Below tb W (wr.setCell ⟨tb,k,none⟩ (.int .u8 ((leB l[3+k/8] (k%8)).toNat:Int)))):=Aa (Ob.out.setCell (p:=⟨tb,k,none⟩) (Ad _) _);obtain⟨x,hx⟩:∃x,l[3+k/8]=x:=⟨_,rfl⟩;rw [hx]at hcell Ai0 Ai1 HNb;clear hx hlen2
    go_wp2_with fail
    rw [Ai0.out];go_roundw
    case rel=>exact⟨k+1,by omega,by go_num,Ai1.out,HNb.out⟩
    case measure=>simp [intOf];omega
   ·have hkm:k=m:=by omega
    subst hkm;obtain⟨q1,b1,Awe,e1',_,cell1⟩:=(h.below nU.out).at (show 1<8 by decide);injection e1' with e1'
    injection e1' with e11 e12
    subst e11 e12;obtain⟨q2,b2,Ah1,e2',_,cell2⟩:=(h.below nU.out).at (show 2<8 by decide);injection e2' with e2'
    injection e2' with e21 e22
    subst e21 e22;have cell0:wr.cell? ⟨b,off,none⟩=some (.int .u64 (n0:Int)):=by have:=(nU.out.cell (p:=⟨b,off+0,none⟩) hbl).trans c0;simpa using this
    obtain⟨tx,htx⟩:∃tx:ByteArray,tx=⟨((leBytes (l.drop 3)).take k).toArray⟩:=⟨_,rfl⟩;have hLk:Q5 l k k=(leBytes (l.drop 3)).take k:=by simp [Q5]
    have hBs:Bs wr (some ⟨tb,0,none⟩) k ((leBytes (l.drop 3)).take k):=by
     have:=nT.out.rd;rw [hLk,BH]at this;have e:((leBytes (l.drop 3)).take k).length=k:=by rw [<-hLk];exact dS l k k hlen Abp (Ad _)
     rw [e]at this;exact this
    have hbd:Below wr.heap.size wr wr.drew:=(Dr.drew wr).below _;have hba:Below wr.heap.size wr (wr.alloc (.cells #[.int .u64 0,.int .u64 0,.bool false,.string ⟨#[]⟩] 109)).drew:=((Below.refl _ _).alloc (Ad _) _).trans ((Dr.drew _).below _);have hcv:=KQ (P:=Tryz.prog) Tryz.underlying22 Tryz.underlying5 Tryz.underlying9 (hBs.below hbd) k;have hcv2:=KQ (P:=Tryz.prog) Tryz.underlying22 Tryz.underlying5 Tryz.underlying9 (hBs.below hba) k;rw [<-htx]at hcv hcv2;clear hbd hba;obtain⟨g,hg⟩:∃g,(bits BinOp.and .u64 (n0:Int) 256 !=0)=g:=⟨_,rfl⟩;obtain⟨x1,hx1⟩:∃x,l[1]=x:=⟨_,rfl⟩;obtain⟨x2,hx2⟩:∃x,l[2]=x:=⟨_,rfl⟩;rw [hx1]at cell1;rw [hx2]at cell2;have HX1:=Aa hx1;have vg:=Aa hx2;have HG:=Aa hg;have HTx:=Aa htx;clear hx1 hx2 htx hLk hBs
    go_wp2_with fail
    go_region
    all_goals(obtain⟨W9,Vt⟩:∃W9,W9=(wr.alloc (.cells #[.int .u64 (x1.toNat:Int),.int .u64 (x2.toNat:Int),.bool g,.string tx] 109)).drew:=⟨_,rfl⟩)
    all_goals(have B9:CG W9 wr.heap.size 109 [.int .u64 (x1.toNat:Int),.int .u64 (x2.toNat:Int),.bool g,.string tx]:=by rw [Vt];exact heap_alloc_new _ _)
    all_goals(have Amh:Below wr.heap.size wr W9:=by rw [Vt];exact((Below.refl _ _).alloc (Ad _) _).trans ((Dr.drew _).below _))
    all_goals(have Zw:=nU.out.trans (Amh.mono nU.out.size))
    all_goals(have K9:CG W9 w.heap.size 109 _:=(HK.out.below Ob.out (by have:=HTB.out;omega)).below Amh (by have:=Ob.out.size;have:=HK.out.lt;omega))
    all_goals(have hWr:w.heap.size<wr.heap.size:=by have:=Ob.out.size;have:=HK.out.lt;omega)
    all_goals(have HE:=Aa (VJ ⟨x1,x2,g,tx⟩ W9 (by show tx.size<=_;have h1:tx.size=((leBytes (l.drop 3)).take k).length:=(by rw [HTx.out];rfl);rw [h1,DC];omega)))
    all_goals(rw [<-Vt])
    all_goals(unfold yP at HE)
    all_goals(obtain⟨u0,u1,u2,u3,_,_,_,_⟩:=C9 B9)
    all_goals(have HC:Hid (TG l=⟨x1,x2,g,tx⟩):=Aa (by
     have a1:l.getD 1 0=x1:=by rw [Bh,Af q1];exact HX1.out
     have a2:l.getD 2 0=x2:=by rw [Bh,Af q2];exact vg.out
     have a3:decide (n0/256%2=1)=g:=by rw [<-HG.out];exact(Atw n0 Air).symm
     unfold TG;rw [a1,a2,HD0.out,a3,<-HM.out,<-HTx.out]))
    all_goals(have vM:=Aa B9)
    all_goals(have HK9:=Aa K9)
    all_goals(have Aqp:=Aa Zw)
    all_goals(clear B9 K9 Zw Amh Vt cell0 cell1 cell2 hcv hcv2 hg)
    all_goals(go_wp2_with fail)
    all_goals(refine HE.out.mono ?_)
    all_goals(rintro e w10⟨VK,vT⟩)
    all_goals(have yR:=Aqp.out.trans (VK.mono Aqp.out.size))
    all_goals(have K10:=HK9.out.below VK HK9.out.lt)
    all_goals(have B10:=vM.out.below VK vM.out.lt)
    all_goals(cases hR:Eg ⟨x1,x2,g,tx⟩)
    all_goals(rw [hR]at vT)
    all_goals(have Afm:=Aa K10)
    all_goals(have Afn:=Aa yR)
    all_goals(have bn:=Aa B10)
    all_goals(clear HE u0 u1 u2 u3 VK)
    all_goals first
     | (replace vT:e= .returned (.tuple #[.slice none 0 0,.bool false]):=vT
        subst vT;have HV:Hid (KJ l=none):=Aa (by unfold KJ;rw [if_pos ⟨hlen,by rw [HD0.out,<-HM.out];exact Abp⟩,HC.out,hR];simp);obtain⟨z0,z1,z2,z3,k0,k1,k2,k3⟩:=C9 K10;clear hR K10 B10 yR
        go_wp2_with fail
        have BF:=(((Afm.out.AZ 0 (.int .u64 0)).AZ 1 (.int .u64 0)).AZ 2 (.bool false)).AZ 3 (.string ⟨#[]⟩);have KL:=(((Afn.out.setCell (p:=⟨w.heap.size,0,none⟩) (Ad _) (.int .u64 0)).setCell (p:=⟨w.heap.size,1,none⟩) (Ad _) (.int .u64 0)).setCell (p:=⟨w.heap.size,2,none⟩) (Ad _) (.bool false)).setCell (p:=⟨w.heap.size,3,none⟩) (Ad _) (.string ⟨#[]⟩);refine XX rfl w.heap.size BF (.bool false) rfl rfl ⟨KL,?_⟩;rw [HV.out];rfl)
     | (replace vT:∃g2,e= .returned (.tuple #[.slice (some ⟨g2,0,none⟩) 8 8,.bool true])/\w10.ownsRow W9.heap.size 28 1 (.slice (some ⟨g2,0,none⟩) 8 8) 8 ((Dk ⟨x1,x2,g,tx⟩).map wv):=vT
        obtain⟨g2,rfl,ho⟩:=vT;have heq:=PM (some ⟨g2,0,none⟩) (some ⟨b,off,none⟩) 8 8 8 c (Dk ⟨x1,x2,g,tx⟩) l w10 (by decide) (by decide) (CB ho).2 (h.below yR);have rU:=Aa heq;clear heq ho B10 K10 yR;by_cases he:Dk ⟨x1,x2,g,tx⟩=l
        ·have HV:Hid (KJ l=some ⟨x1,x2,g,tx⟩):=Aa (by unfold KJ;rw [if_pos ⟨hlen,by rw [HD0.out,<-HM.out];exact Abp⟩,HC.out,if_pos ⟨hR,he⟩]);rw [decide_eq_true he]at rU;clear he hR
         go_wp2_with fail
         refine rU.out.mono ?_;rintro e w11⟨rfl,hd⟩;have K11:=Afm.out.below (hd.below _) Afm.out.lt;have B11:=bn.out.below (hd.below _) bn.out.lt;have Afo:=Aa (Afn.out.trans (hd.below w.heap.size));obtain⟨z0,z1,z2,z3,k0,k1,k2,k3⟩:=C9 K11;obtain⟨u0,u1,u2,u3,_,_,_,_⟩:=C9 B11;have Abq:=Aa K11;clear K11 B11 hd rU
         go_wp2_with fail
         have BF:=(((Abq.out.AZ 0 (.int .u64 (x1.toNat:Int))).AZ 1 (.int .u64 (x2.toNat:Int))).AZ 2 (.bool g)).AZ 3 (.string tx);have KL:=(((Afo.out.setCell (p:=⟨w.heap.size,0,none⟩) (Ad _) (.int .u64 (x1.toNat:Int))).setCell (p:=⟨w.heap.size,1,none⟩) (Ad _) (.int .u64 (x2.toNat:Int))).setCell (p:=⟨w.heap.size,2,none⟩) (Ad _) (.bool g)).setCell (p:=⟨w.heap.size,3,none⟩) (Ad _) (.string tx);refine XX rfl w.heap.size BF (.bool true) rfl rfl ⟨KL,?_⟩;rw [HV.out];rfl
        ·have HV:Hid (KJ l=none):=Aa (by unfold KJ;rw [if_pos ⟨hlen,by rw [HD0.out,<-HM.out];exact Abp⟩,HC.out,if_neg (fun h=>he h.2)]);rw [decide_eq_false he]at rU;clear he hR
         go_wp2_with fail
         refine rU.out.mono ?_;rintro e w11⟨rfl,hd⟩;have K11:=Afm.out.below (hd.below _) Afm.out.lt;have Afo:=Aa (Afn.out.trans (hd.below w.heap.size));obtain⟨z0,z1,z2,z3,k0,k1,k2,k3⟩:=C9 K11;have Abq:=Aa K11;clear K11 hd rU
         go_wp2_with fail
         have BF:=(((Abq.out.AZ 0 (.int .u64 0)).AZ 1 (.int .u64 0)).AZ 2 (.bool false)).AZ 3 (.string ⟨#[]⟩);have KL:=(((Afo.out.setCell (p:=⟨w.heap.size,0,none⟩) (Ad _) (.int .u64 0)).setCell (p:=⟨w.heap.size,1,none⟩) (Ad _) (.int .u64 0)).setCell (p:=⟨w.heap.size,2,none⟩) (Ad _) (.bool false)).setCell (p:=⟨w.heap.size,3,none⟩) (Ad _) (.string ⟨#[]⟩);refine XX rfl w.heap.size BF (.bool false) rfl rfl ⟨KL,?_⟩;rw [HV.out];rfl)
theorem DN{w:World}{base k n:Nat}{e:TypeId}{v:Value}{xs:List Value}(h:w.ownsRow base e k v n xs):∃A c,v= .slice A n c/\n<=c/\Rd w A (n*k) xs:=by
 rcases h.2 with⟨h1,h2⟩| ⟨g,cap,cur,h1,h2,h3,h4,h5,h6,h7⟩
 ·subst h2;exact⟨none,0,h1,Ad _,h.1,fun hn=>by omega⟩
 ·refine⟨_,_,h1,h4,h.1,fun hn=>⟨g,0,rfl,(AB.1 h3).1,fun j hj=> ?_⟩⟩;rw [cell_of_row w g _ cur _ (0,0) h3,<-h7,CS,if_pos (by omega)];simp
theorem flat_get{α:Type}(f:α->List Value)(m:Nat)(hf:∀a,(f a).length=m):∀(l:List α)(k i:Nat)(hk:k<l.length),i<m->((l.map f).flatten)[k*m+i]? =(f l[k])[i]?
 | a::t,0,i,_,hi=>by
   rw [BU,KE,Nat.zero_mul,Nat.zero_add,DD (by rw [hf];exact hi)];rfl
 | a::t,k+1,i,hk,hi=>by
   rw [BU,KE,Ew (by rw [hf,Aop];omega),hf,show(k+1)*m+i-m=k*m+i by rw [Aop];omega];exact flat_get f m hf t k i (by simpa using hk) hi
def lkC(k:Lk):List Value:=[.int .i64 k.off,.int .u64 (k.rc.stamp.toNat:Int),.int .u64 (k.rc.next.toNat:Int),.bool k.rc.gone,.string k.rc.text]
def ji(l:List Lk):List Value:=(l.map lkC).flatten
theorem nY(l:List Lk)(a:Lk):ji (l++[a])=ji l++lkC a:=by simp [ji]
def LkR(w:World)(A:Option Addr)(l:List Lk):Prop:=Rd w A (l.length*5) (ji l)
theorem LkR.below{w w':World}{A:Option Addr}{l:List Lk}(h:LkR w A l)(k:Below w.heap.size w w'):LkR w' A l:=Rd.below h k
theorem LkR.at{w:World}{A:Option Addr}{l:List Lk}(h:LkR w A l)(k:Nat)(hk:k<l.length):∃b off,A=some ⟨b,off,none⟩/\b<w.heap.size/\w.cell? ⟨b,off+k*5,none⟩=some (.int .i64 l[k].off)/\w.cell? ⟨b,off+k*5+1,none⟩=some (.int .u64 (l[k].rc.stamp.toNat:Int))/\
 w.cell? ⟨b,off+k*5+2,none⟩=some (.int .u64 (l[k].rc.next.toNat:Int))/\w.cell? ⟨b,off+k*5+3,none⟩=some (.bool l[k].rc.gone)/\w.cell? ⟨b,off+k*5+4,none⟩=some (.string l[k].rc.text):=by
 obtain⟨b,off,e,hb,hc⟩:=h.2 (by omega);have key:∀i,i<5->w.cell? ⟨b,off+k*5+i,none⟩=(lkC l[k])[i]? :=fun i hi=>by
  rw [kG,hc (k*5+i) (by omega)];exact flat_get lkC 5 (fun _=>rfl) l k i hk hi
 exact⟨b,off,e,hb,key 0 (by decide),key 1 (by decide),key 2 (by decide),key 3 (by decide),key 4 (by decide)⟩
theorem jk{w:World}{base:Nat}{v:Value}{l:List Lk}(h:w.ownsRow base 111 5 v l.length (ji l)):∃A c,v= .slice A l.length c/\l.length<=c/\LkR w A l:=DN h
section
variable{w w':World}{d p L:Nat}{s:St}{F:Nat->Prop}
theorem Ej.size{len:DW}(h:Ej len w d p L s F):Calls Tryz.prog 32 #[Aw d] w fun e w'=>e= .returned (.int .i64 ((L*64:Nat):Int))/\w=w':=by
 obtain⟨tb,hb,n,cT,cH,own,h,_⟩:=h;exact h.dev.size h.L1
theorem Ej.pos{len:DW}(h:Ej len w d p L s F):0<L/\L<=1024/\aX L s.sh/\s.tk.length=s.sh.BI:=by
 obtain⟨tb,hb,n,cT,cH,own,h,_⟩:=h;exact⟨h.L0,h.L1,FI h.shape,by rw [h.NR,h.au]⟩
theorem VL{len:DW}(h:Ej len w d p L s F):Calls Tryz.prog 82 #[Aw d,Aw p] w fun e w'=>e= .returned (.bool false)/\w=w':=by
 have hL0:=h.pos.1;have t0:(((L*64:Nat):Int)==0)=false:=by rw [beq_eq_false_iff_ne];omega
 have hsz:=h.size;generalize L*64=sz at hsz t0;have HS:=Aa hsz;clear hsz h;go_enter Tryz.func82,Tryz.ntmps82
 go_wp2_with fail
 refine HS.out.mono ?_;rintro e w1⟨rfl,rfl⟩
 go_wp2_with fail
 go_ret;exact⟨rfl,rfl⟩
end
def IK(w:World)(G:Nat->Prop)(A:Option Addr)(n:Nat)(xs:List Value):Prop:=Rd w A n xs/\(0<n->∀a,A=some a->¬G a.block)
section
variable{w w':World}{G G':Nat->Prop}{A:Option Addr}{n:Nat}{xs:List Value}
theorem IK.moved(h:IK w G A n xs)(m:AO G G' w w'):IK w' G' A n xs:=by
 obtain⟨⟨h1,h2⟩,h3⟩:=h;refine⟨⟨h1,fun hn=> ?_⟩,fun hn a e=> ?_⟩
 ·obtain⟨b,off,e,hb,hc⟩:=h2 hn;exact⟨b,off,e,Cf hb m.touch.size,fun j hj=>(Bz (w:=w) (m.touch.block b hb (h3 hn _ e))).trans (hc j hj)⟩
 ·obtain⟨b,off,e',hb,hc⟩:=h2 hn;rw [e']at e;injection e with e
  subst e;exact m.out hb (h3 hn _ e')
theorem IK.below(h:IK w G A n xs)(k:Below w.heap.size w w'):IK w' G A n xs:=h.moved (AO.of_below k)
theorem IK.mono{F:Nat->Prop}(h:IK w G A n xs)(k:∀b,b<w.heap.size->F b->G b):IK w F A n xs:=⟨h.1,fun hn a e hf=>by
 obtain⟨b,off,e',hb,hc⟩:=h.1.2 hn;rw [e']at e;injection e with e
 subst e;exact h.2 hn _ e' (k _ hb hf)⟩
theorem IK.take(h:IK w G A n xs)(k:Nat)(hk:k<=n):IK w G A k (xs.take k):=by
 obtain⟨⟨h1,h2⟩,h3⟩:=h;refine⟨⟨by rw [DC];omega,fun hn=> ?_⟩,fun hn=>h3 (by omega)⟩;obtain⟨b,off,e,hb,hc⟩:=h2 (by omega);exact⟨b,off,e,hb,fun j hj=>by rw [hc j (by omega),CS,if_pos hj]⟩
theorem IK.cut{b off c:Nat}(h:IK w G (some ⟨b,off,none⟩) n xs)(k:Nat)(hk:k<=n)(hc:n<=c):IK w G (if c=k then some ⟨b,off,none⟩else some ⟨b,off+k,none⟩) (n-k) (xs.drop k):=by
 obtain⟨⟨h1,h2⟩,h3⟩:=h;by_cases hn:k=n
 ·refine⟨⟨by rw [AV];omega,fun hn'=>by omega⟩,fun hn'=>by omega⟩
 ·rw [if_neg (by omega)];refine⟨⟨by rw [AV];omega,fun hn'=> ?_⟩,fun hn' a e=> ?_⟩
  ·obtain⟨b',off',e,hb,hcc⟩:=h2 (by omega);injection e with e
   injection e with e1 e2
   subst e1 e2;exact⟨_,_,rfl,hb,fun j hj=>by rw [kG,hcc (k+j) (by omega),List.getElem?_drop]⟩
  ·injection e with e
   subst e;exact h3 (by omega) ⟨b,off,none⟩ rfl
theorem IK.JI{base c:Nat}{e:TypeId}(h:w.ownsRow base e 1 (.slice A n c) n xs)(hG:∀b,base<=b->b<w.heap.size->¬G b):IK w G A n xs:=by
 refine⟨(CB h).2,fun hn a ea=> ?_⟩;rcases h.2 with⟨h1,_⟩| ⟨g',cap,cur,h1,h2,h3,_⟩
 ·simp only [Value.slice.injEq]at h1;rw [h1.1]at ea;cases ea
 ·simp only [Value.slice.injEq]at h1;rw [h1.1]at ea;injection ea with ea
  subst ea;exact hG _ h2 (AB.1 h3).1
theorem IK.nil:IK w G A 0 []:=⟨Rd.nil,fun h=>absurd h (by omega)⟩
end
def Zx(w:World)(G:Nat->Prop)(a b c d:Value)(nd:Nd):Prop:=
 ∃A1 c1 A2 c2 A3 c3,a= .slice A1 nd.pre.length c1/\b= .int .u64 (nd.val.toNat:Int)/\c= .slice A2 nd.labels.length c2/\d= .slice A3 nd.kids.length c3/\nd.pre.length<=c1/\
  IK w G A1 nd.pre.length (nd.pre.map bv)/\IK w G A2 nd.labels.length (nd.labels.map bv)/\IK w G A3 nd.kids.length (nd.kids.map wv)
theorem Zx.moved{w w':World}{G G':Nat->Prop}{a b c d:Value}{nd:Nd}(h:Zx w G a b c d nd)(m:AO G G' w w'):Zx w' G' a b c d nd:=by
 obtain⟨A1,c1,A2,c2,A3,c3,e1,e2,e3,e4,hc,h1,h2,h3⟩:=h;exact⟨A1,c1,A2,c2,A3,c3,e1,e2,e3,e4,hc,h1.moved m,h2.moved m,h3.moved m⟩
theorem Zx.Aqq{w:World}{G:Nat->Prop}{base:Nat}{a b c d:Value}{nd:Nd}(h:Xc w base (.agg #[a,b,c,d]) nd)(hG:∀b,base<=b->b<w.heap.size->¬G b):Zx w G a b c d nd:=by
 obtain⟨A1,c1,A2,c2,A3,c3,e,h1,h2,h3⟩:=h;simp only [Value.agg.injEq]at e;simp at e;obtain⟨rfl,rfl,rfl,rfl⟩:=e;exact⟨A1,c1,A2,c2,A3,c3,rfl,rfl,rfl,rfl,(CB h1).1,IK.JI h1 hG,IK.JI h2 hG,IK.JI h3 hG⟩
theorem TW{L:Nat}{s s1:St}{c off:Nat}(ok:aX L s.sh)(FT:s.tk.length=s.sh.BI)(hc:c=1\/c=2)(h:CQ s c=some (off,s1)):∃o,off=8*o/\o+8*Be c<=8*L:=by
 unfold CQ at h;split at h
 ·cases h
 ·rename_i i hi;split at h
  ·cases h
  ·rename_i a ha;injection h with h
   injection h with h1 h2
   have hil:=(PZ hi).1;have hal:a<Bv c:=by
    unfold Kq at ha;split at ha
    ·exact iK ha
    ·cases ha
   unfold CW at h1;have:=ok.data;have:=ok.fits;rw [FT]at hil;rcases hc with rfl| rfl
   ·refine⟨off/8,?_,?_⟩<;>simp only [Be,Bv]at* <;>omega
   ·refine⟨off/8,?_,?_⟩<;>simp only [Be,Bv]at* <;>omega
theorem SC(x:Nd):Dn x=1\/Dn x=2:=by unfold Dn;split<;>simp
theorem vU(x:Nd):(DX x).length=8*Be (Dn x):=by
 rw [EL];unfold Dn;split<;>rfl
theorem Ij(j:Jm)(n:Nd):(Ec j n).1.made.length<=j.made.length+1:=by
 unfold Ec;split
 ·simp
 ·split
  ·simp
  ·split;split
   ·split;split<;>simp
   ·simp
theorem Oh(j:Jm)(n:Nd)(label:UInt8)(kid:UInt64)(e:Int):(Hg j n label kid e).1.made.length<=j.made.length+1:=by
 unfold Hg;split
 ·simp
 ·split
  ·exact Ij _ _
  ·simp
theorem Ld:∀(f:Nat)(j:Jm)(l:List UInt8)(value:UInt64),(KN f j l value).1.made.length<=j.made.length+f
 | 0,j,l,value=>by simp [KN]
 | f+1,j,l,value=>by
   unfold KN;split
   ·have:=Ij j ⟨l,value,[],[]⟩;omega
   ·have h1:=Ld f j (l.drop 16) value;split;rename_i j1 kid e he;rw [he]at h1;have:=Oh j1 ⟨l.take 15,0,[],[]⟩ (l.getD 15 0) kid e;simp only at h1;omega
def wrC(x:Wr):List Value:=[.string x.key,.string x.text,.bool x.gone]
def Gx(l:List Wr):List Value:=(l.map wrC).flatten
theorem LX:∀(l:List Wr),(Gx l).length=l.length*3
 | []=>rfl
 | a::t=>by
   have:=LX t;simp only [Gx,BU,KE,AQ,List.length_cons]at this⊢;rw [this];simp [wrC];omega
def Ju(w:World)(G:Nat->Prop)(v:Value)(s:List Wr):Prop:=∃A c,v= .slice A s.length c/\s.length<=c/\IK w G A (s.length*3) (Gx s)
theorem Ju.moved{w w':World}{G G':Nat->Prop}{v:Value}{s:List Wr}(h:Ju w G v s)(m:AO G G' w w'):Ju w' G' v s:=by
 obtain⟨A,c,e,h1,h2⟩:=h;exact⟨A,c,e,h1,h2.moved m⟩
theorem Ju.below{w w':World}{G:Nat->Prop}{v:Value}{s:List Wr}(h:Ju w G v s)(k:Below w.heap.size w w'):Ju w' G v s:=h.moved (AO.of_below k)
theorem Ju.at{w:World}{G:Nat->Prop}{v:Value}{s:List Wr}(h:Ju w G v s)(k:Nat)(hk:k<s.length):∃b off c,v= .slice (some ⟨b,off,none⟩) s.length c/\s.length<=c/\b<w.heap.size/\¬G b/\
 w.cell? ⟨b,off+k*3,none⟩=some (.string s[k].key)/\w.cell? ⟨b,off+k*3+1,none⟩=some (.string s[k].text)/\w.cell? ⟨b,off+k*3+2,none⟩=some (.bool s[k].gone):=by
 obtain⟨A,c,e,hc,hr,hG⟩:=h;obtain⟨b,off,rfl,hb,hcl⟩:=hr.2 (by omega);have key:∀i,i<3->w.cell? ⟨b,off+k*3+i,none⟩=(wrC s[k])[i]? :=fun i hi=>by
  rw [kG,hcl (k*3+i) (by omega)];exact flat_get wrC 3 (fun _=>rfl) s k i hk hi
 exact⟨b,off,c,e,hc,hb,hG (by omega) _ rfl,key 0 (by decide),key 1 (by decide),key 2 (by decide)⟩
theorem Ju.slice{w:World}{G:Nat->Prop}{v:Value}{s:List Wr}(h:Ju w G v s):∃A c,v= .slice A s.length c:=by
 obtain⟨A,c,e,_⟩:=h;exact⟨A,c,e⟩
theorem Tryz.nZ:Jt Tryz.prog 53 74 (.agg #[.string ⟨#[]⟩,.string ⟨#[]⟩,.bool false]) 3 40:=⟨Tryz.underlying53,by kernel_rfl,rfl⟩
def Xe(x:Wr):Value:= .agg #[.string x.key,.string x.text,.bool x.gone]
theorem OW(x:Wr)(w:World)(h1:x.key.size<=4294967296)(h2:x.text.size<=4294967296):Calls Tryz.prog 87 #[Xe x] w fun e w'=>e= .returned (.bool (ER x))/\Below w.heap.size w w':=by
 obtain⟨ky,tx,g⟩:=x;simp only [Xe]at h1 h2⊢;obtain⟨W,hW,hb,B⟩:=FB w 74 [.string ky,.string tx,.bool g];obtain⟨y0,y1,y2⟩:=B.p3;have HB:=Aa hb;rw [hW]at y0 y1 y2 HB;have e4:=Zv tx;have E4:=Aa e4;clear B hb hW e4;by_cases hk:16<ky.size
 ·have t1:decide ((16:Int)<(ky.size:Int))=true:=decide_eq_true (by omega);have HV:Hid (ER ⟨ky,tx,g⟩=false):=Aa (by
   unfold ER;rw [show decide (ky.size<=16)=false from decide_eq_false (by omega)];rfl)
  clear hk;go_enter Tryz.func87,Tryz.ntmps87
  go_wp2_with fail
  go_ret;exact⟨by rw [HV.out];rfl,HB.out⟩
 ·have t1:decide ((16:Int)<(ky.size:Int))=false:=decide_eq_false (by omega);by_cases ht:40<tx.size
  ·have t2:decide ((40:Int)<(tx.size:Int))=true:=decide_eq_true (by omega);have HV:Hid (ER ⟨ky,tx,g⟩=false):=Aa (by
    unfold ER;rw [show decide (tx.size<=40)=false from decide_eq_false (by omega),Bool.and_false];rfl)
   clear hk ht;go_enter Tryz.func87,Tryz.ntmps87
   go_wp2_with fail
   go_ret;exact⟨by rw [HV.out];rfl,HB.out⟩
  ·have t2:decide ((40:Int)<(tx.size:Int))=false:=decide_eq_false (by omega);have hR:Hid (ER ⟨ky,tx,g⟩=(!g|| (tx.toList==[]))):=Aa (by
    unfold ER;rw [E4.out,show decide (ky.size<=16)=true from decide_eq_true (by omega),show decide (tx.size<=40)=true from decide_eq_true (by omega)];rfl)
   clear hk ht;cases g with
   | false=>
     go_enter Tryz.func87,Tryz.ntmps87
     go_wp2_with fail
     go_ret;exact⟨by rw [hR.out];rfl,HB.out⟩
   | true=>
     have hie:∀l:List UInt8,(l==[])=l.isEmpty:=fun l=>by cases l<;>rfl
     rw [hie]at hR;go_enter Tryz.func87,Tryz.ntmps87
     go_wp2_with fail
     go_ret;exact⟨by rw [hR.out];rfl,HB.out⟩
theorem Zy(l:List Wr):∀u∈Gx l,u.oneCell'=true:=by
 intro u hu;simp only [Gx,List.mem_flatten,Bf]at hu;obtain⟨_,⟨x,_,rfl⟩,hu⟩:=hu;simp only [wrC,CZ,List.not_mem_nil,or_false]at hu;rcases hu with rfl| rfl| rfl<;>rfl
theorem Abr{w:World}{base g k:Nat}{e:TypeId}(hg:CG w g e [])(hb:base<=g):w.ownsRow base e k (.slice (some ⟨g,0,none⟩) 0 0) 0 []:=by
 refine⟨by simp,.inr ⟨g,0,#[],rfl,hb,hg,Ad _,by decide,by simp,by simp⟩⟩
theorem og{w:World}{G:Nat->Prop}{base n:Nat}{v:Value}{s:List Wr}(h:w.ownsRow base 74 3 v n (Gx s))(hn:s.length=n)(hG:∀b,base<=b->b<w.heap.size->¬G b):Ju w G v s:=by
 subst hn;obtain⟨A,c,rfl,hc,hr⟩:=DN h;refine⟨A,c,rfl,hc,hr,fun hn a ea=> ?_⟩;subst ea;rcases h.2 with⟨h1,_⟩| ⟨g',cap,cur,h1,h2,h3,_⟩
 ·simp only [Value.slice.injEq]at h1;exact absurd h1.1 (by simp)
 ·simp only [Value.slice.injEq,Option.some.injEq]at h1;rw [h1.1];exact hG _ h2 (AB.1 h3).1
theorem OX{w:World}{G:Nat->Prop}{v:Value}{s:List Wr}(h:Ju w G v s)(hs:s.length<=100000):
 Calls Tryz.prog 88 #[v] w fun e w'=>∃u,e= .returned u/\w'.ownsRow w.heap.size 74 3 u s.length (Gx s)/\Below w.heap.size w w':=by
 obtain⟨A,c,rfl,hc,hr,hG⟩:=h;have q1:=fun W=>Lib.run_eql_slice_nil (P:=Tryz.prog) W 53 74 A s.length c 0 0 Tryz.underlying53
 cases A with
 | none=>
   have hs0:s=[]:=by
    by_cases e:s=[]
    ·exact e
    ·obtain⟨b,off,e2,_⟩:=hr.2 (by have:=xU.2 e;omega);cases e2
   subst hs0;simp only [List.length_nil]at q1;clear hr hG;go_enter Tryz.func88,Tryz.ntmps88
   go_wp2_with fail
   go_ret;exact⟨_,rfl,⟨by simp [Gx],.inl ⟨rfl,rfl⟩⟩,Below.refl _ _⟩
 | some a=>
   have HR:=Aa hr;have HC:=Aa hs;have hb0:Below w.heap.size w (w.alloc (.cells #[] 74)):=(Below.refl _ _).alloc (Ad _) _;have HB0:=Aa hb0;have HO:Hid ((w.alloc (.cells #[] 74)).ownsRow w.heap.size 74 3 (.slice (some ⟨w.heap.size,0,none⟩) 0 0) 0 []):=Aa (Abr (heap_alloc_new _ _) (Ad _));clear hb0 hr hG hs;go_enter Tryz.func88,Tryz.ntmps88
   go_wp2_with(at_builtin;refine I4 rfl (.tmp 5) (.tmp 6) 53 rfl Tryz.nZ (by decide) w.heap.size (.slice (some ⟨w.heap.size,0,none⟩) 0 0) 0 [] rfl HO.out (some a) s.length c (Gx s) rfl (Rd.below HR.out HB0.out) (Zy s) (by have:=HC.out;omega) (by decide) (by simp) ?_;intro v' w' hO hB hK)
   go_ret;exact⟨_,rfl,by simpa using hO,HB0.out.trans hB⟩
theorem vV (A B : Option Addr) (n m c d : Nat) (a b : List UInt8) (w : World) (hn : n <= 4294967296) (_hm : m <= 4294967296) (ha : Bs w A n a) (hb : Bs w B m b) :
    Calls Tryz.prog 157 #[.slice A n c, .slice B m d] w fun e w' => e = .returned (.bool (decide (a = b))) /\ Dr w w' := by
  have hla := ha.len
  have hlb := hb.len
  by_cases hnm : n = m
  · subst hnm
    have t1 : ((n : Int) != (n : Int)) = false := by simp
    go_enter Tryz.func157, Tryz.ntmps157
    go_wp2
    go_loopw [13] (fun i wr => ∃ k : Nat, k <= n /\ i = .int .i64 k /\ (∀ j (h1 : j < a.length) (h2 : j < b.length), j < k -> a[j] = b[j]) /\ Dr w wr) (fun i _ => n - (intOf i).toNat)
    case atStart => exact ⟨0, BK _, rfl, fun j _ _ h => absurd h (by omega), Dr.refl _⟩
    case round =>
      obtain ⟨k, hk, rfl, heq, q, rfl⟩ := hrel
      by_cases hlt : k < n
      · obtain ⟨hq, p, off, rfl, hp, hc⟩ := ha.at hlt
        obtain ⟨hq2, p2, Ah1, rfl, hp2, hc2⟩ := hb.at hlt
        by_cases he : a[k] = b[k]
        · have t2 : (((a[k].toNat : Int)) != (b[k].toNat : Int)) = false := by simp [he]
          have HE : Hid (∀ j (h1 : j < a.length) (h2 : j < b.length), j < k + 1 -> a[j] = b[j]) := Aa fun j h1 h2 hj => by
            by_cases e : j = k
            · subst e; exact he
            · exact heq j h1 h2 (by omega)
          clear heq he
          go_wp2
          go_quiet (fail)
          go_wp2
          go_roundw
          case rel => exact ⟨k + 1, by omega, by go_num, HE.out, by first | exact Dr.one _ _ | exact Dr.two _ _ _⟩
          case measure => simp [intOf]; omega
        · have t2 : (((a[k].toNat : Int)) != (b[k].toNat : Int)) = true := by
            rw [bne_iff_ne]; intro e; exact he (UInt8.toNat_inj.1 (by omega))
          have HD : Hid (decide (a = b) = false) := Aa (by rw [decide_eq_false_iff_not]; intro e; subst e; exact he rfl)
          clear heq he
          go_wp2
          go_quiet (fail)
          go_wp2
          go_ret
          exact ⟨by rw [HD.out]; rfl, by first | exact Dr.one _ _ | exact Dr.two _ _ _⟩
      · have hkn : k = n := by omega
        subst hkn
        have HD : Hid (decide (a = b) = true) := Aa (by
          rw [decide_eq_true_iff]
          apply List.ext_getElem (by omega)
          intro j h1 h2
          exact heq j h1 h2 (by omega))
        clear heq
        go_wp2
        go_ret
        exact ⟨by rw [HD.out]; rfl, Dr.one _ _⟩
  · have t1 : ((n : Int) != (m : Int)) = true := by simp; omega
    have HD : Hid (decide (a = b) = false) := Aa (by rw [decide_eq_false_iff_not]; intro e; subst e; omega)
    go_enter Tryz.func157, Tryz.ntmps157
    go_wp2
    go_ret
    exact ⟨by rw [HD.out]; rfl, Dr.refl _⟩
theorem yS(w:World)(o:Obj)(xs:List Value)(t:TypeId):CG ((w.alloc o).alloc (.cells xs.toArray t)) (w.heap.size+1) t xs:=by
 have:=heap_alloc_new (w.alloc o) (.cells xs.toArray t);rw [show(w.alloc o).heap.size=w.heap.size+1 by simp]at this;exact this
theorem Xc.below{w w':World}{base:Nat}{v:Value}{x:Nd}(h:Xc w base v x)(k:Below w.heap.size w w'):Xc w' base v x:=by
 obtain⟨A1,c1,A2,c2,A3,c3,e,h1,h2,h3⟩:=h;exact⟨A1,c1,A2,c2,A3,c3,e,own_below h1 k,own_below h2 k,own_below h3 k⟩
theorem PlV.len{w:World}{base:Nat}{cs:List Value}{p:Pl}(h:PlV w base cs p):cs.length=7:=by
 obtain⟨a,b,c,d,rfl,_⟩:=h;rfl
theorem VI.get{w:World}{base:Nat}:∀(vs:List (List Value))(ps:List Pl),VI w base vs ps->∀i(h:i<ps.length),∃cs,PlV w base cs ps[i]/\∀j,j<7->vs.flatten[7*i+j]? =cs[j]?
 | [],[],_,i,hi=>by simp at hi
 | [],_::_,h,_,_=>h.elim
 | _::_,[],h,_,_=>h.elim
 | c::vs,p::ps,h,0,hi=>⟨c,h.1,fun j hj=>by
    have:=h.1.len;rw [KE,DD (by omega)];simp⟩
 | c::vs,p::ps,h,i+1,hi=>by
    obtain⟨cs,h1,h2⟩:=VI.get vs ps h.2 i (by simpa using hi);refine⟨cs,by simpa using h1,fun j hj=> ?_⟩;have:=h.1.len;rw [KE,Ew (by omega),<-h2 j hj];congr 1;omega
structure yT(w:World)(base:Nat)(g i:Nat)(pl:Pl)(a b c d:Value):Prop where
 cells:∀j u,[a,b,c,d,.int .i64 pl.off,.int .u8 (pl.label.toNat:Int),.int .i64 pl.word][j]? =some u->w.cell? ⟨g,7*i+j,none⟩=some u
 nd:Xc w base (.agg #[a,b,c,d]) pl.nd
theorem NH.at{w:World}{base:Nat}{v:Value}{way:List Pl}(h:NH w base v way)(h0:way≠[]):∃g c,v= .slice (some ⟨g,0,none⟩) way.length c/\way.length<=c/\base<=g/\g<w.heap.size/\
 ∀i(hi:i<way.length),∃a b c' d,yT w base g i way[i] a b c' d:=by
 obtain⟨vs,ho,hp⟩:=h;rcases ho.2 with⟨_,h2⟩| ⟨g,cap,cur,h1,h2,h3,h4,h5,h6,h7⟩
 ·exact absurd (List.length_eq_zero_iff.1 h2) h0
 ·refine⟨g,cap,h1,h4,h2,(AB.1 h3).1,fun i hi=> ?_⟩;obtain⟨cs,⟨a,b,c,d,rfl,hn⟩,hc⟩:=VI.get vs way hp i hi;refine⟨a,b,c,d,⟨fun j u hj=> ?_,hn⟩⟩;have hj7:j<7:=by have:=(List.getElem?_eq_some_iff.1 hj).1;simpa using this
  rw [cell_of_row w g _ cur _ (0,0) h3,<-hj,<-hc j hj7,<-h7,CS,if_pos (by omega)];simp
def Ami:Value:= .agg #[.slice none 0 0,.int .u64 0,.slice none 0 0,.slice none 0 0,.int .i64 0,.int .u8 0,.int .i64 0]
theorem Aqr{w:World}{g:Nat}{e:TypeId}{a b c d k l m:Value}(h:CG w g e [a,b,c,d,k,l,m]):w.frozen? ⟨g,0,none⟩=false/\w.frozen? ⟨g,1,none⟩=false/\w.frozen? ⟨g,2,none⟩=false/\w.frozen? ⟨g,3,none⟩=false/\w.frozen? ⟨g,4,none⟩=false/\w.frozen? ⟨g,5,none⟩=false/\w.frozen? ⟨g,6,none⟩=false:=
 ⟨h.frozen 0,h.frozen 1,h.frozen 2,h.frozen 3,h.frozen 4,h.frozen 5,h.frozen 6⟩
theorem VM{Q:Ending->World->Prop}{W:World}{tmps:Array Value}{fn:Func}(hr:fn.results= #[.cell 4 214,.tmp 5])(g:Nat){a b c d k l m:Value}(h:CG W g 214 [a,b,c,d,k,l,m])(v:Value)(h2:tmps[4]? =some (Aw g))(h3:tmps[5]? =some v)
 (hq:Q (.returned (.tuple #[.agg #[a,b,c,d,k,l,m],v])) W):bodyPost Tryz.prog fn Q Exit.ret {tmps:=tmps,defers:=[]} W:=by
 obtain⟨y0,y1,y2,y3,y4,y5,y6⟩:=ED h;have hu:=run_underlying (P:=Tryz.prog) Tryz.underlying214;refine bodyPost_ret (v:= .tuple #[.agg #[a,b,c,d,k,l,m],v]) (by simp [results,hr,go_sem,h2,h3,y0,y1,y2,y3,y4,y5,y6]) rfl hq
theorem Aqs{w W:World}{base g:Nat}{e:TypeId}{a0 a1 a2 a3 a4 a5 a6:Value}(h:CG W g e [a0,a1,a2,a3,a4,a5,a6])(hb:Below base w W)(hg:base<=g)(b0 b1 b2 b3 b4 b5 b6:Value):
 ∃W',W'=(((((((W.setCell ⟨g,0,none⟩ b0).setCell ⟨g,1,none⟩ b1).setCell ⟨g,2,none⟩ b2).setCell ⟨g,3,none⟩ b3).setCell ⟨g,4,none⟩ b4).setCell ⟨g,5,none⟩ b5).setCell ⟨g,6,none⟩ b6)/\CG W' g e [b0,b1,b2,b3,b4,b5,b6]/\
 Below base w W'/\
 Kept W W' (some g):=
 ⟨_,rfl,((((((h.AZ 0 b0).AZ 1 b1).AZ 2 b2).AZ 3 b3).AZ 4 b4).AZ 5 b5).AZ 6 b6,
   ((((((hb.setCell (p:=⟨g,0,none⟩) hg b0).setCell (p:=⟨g,1,none⟩) hg b1).setCell (p:=⟨g,2,none⟩) hg b2).setCell (p:=⟨g,3,none⟩) hg b3).setCell (p:=⟨g,4,none⟩) hg b4).setCell (p:=⟨g,5,none⟩) hg b5).setCell (p:=⟨g,6,none⟩) hg b6,
   ((((((Kept.AZ W g 0 b0).trans' (Kept.AZ _ g 1 b1)).trans' (Kept.AZ _ g 2 b2)).trans' (Kept.AZ _ g 3 b3)).trans' (Kept.AZ _ g 4 b4)).trans' (Kept.AZ _ g 5 b5)).trans' (Kept.AZ _ g 6 b6)⟩
def vW(way:List Pl)(rest:List UInt8)(base:Nat)(w:World)(e:Ending)(w':World):Prop:=
 Below w.heap.size w w'/\match CX way rest with
  | none=>e= .returned (.tuple #[Ami,.bool false])
  | some last=>∃a b c d,e= .returned (.tuple #[.agg #[a,b,c,d,.int .i64 last.off,.int .u8 (last.label.toNat:Int),.int .i64 last.word],.bool true])/\Xc w' base (.agg #[a,b,c,d]) last.nd
theorem Hm{w:World}{base c:Nat}{vw:Value}{way:List Pl}{A:Option Addr}{rest:List UInt8}(hW:NH w base vw way)(hl:way.length<=1000000)(hp:∀pl∈way,pl.nd.pre.length<=1000)(hR:Bs w A rest.length rest)(hr:rest.length<=1000000):
 Calls Tryz.prog 111 #[vw,.slice A rest.length c] w (vW way rest base w):=by
 have B0:CG (w.alloc (.cells #[.slice none 0 0,.int .u64 0,.slice none 0 0,.slice none 0 0,.int .i64 0,.int .u8 0,.int .i64 0] 214)) w.heap.size 214 [.slice none 0 0,.int .u64 0,.slice none 0 0,.slice none 0 0,.int .i64 0,.int .u8 0,.int .i64 0]:=heap_alloc_new _ _;have hb0:Below w.heap.size w (w.alloc (.cells #[.slice none 0 0,.int .u64 0,.slice none 0 0,.slice none 0 0,.int .i64 0,.int .u8 0,.int .i64 0] 214)):=(Below.refl _ _).alloc (Ad _) _;by_cases h0:way=[]
 ·subst h0;obtain⟨Av,cv,hvw⟩:∃Av cv,vw= .slice Av 0 cv:=by
   obtain⟨vs,ho,_⟩:=hW;rcases ho.2 with⟨h1,_⟩| ⟨g,cap,cur,h1,_⟩
   ·exact⟨_,_,h1⟩
   ·exact⟨_,_,h1⟩
  subst hvw;have HV:Hid (CX [] rest=none):=Aa rfl;clear hW hR hl;obtain⟨f0,f1,f2,f3,f4,f5,f6⟩:=Aqr B0;obtain⟨y0,y1,y2,y3,y4,y5,y6⟩:=ED B0;go_enter Tryz.func111,Tryz.ntmps111
  go_wp2_with fail
  refine VM rfl w.heap.size B0 (.bool false) rfl rfl ⟨hb0,?_⟩;rw [HV.out];rfl
 ·obtain⟨g,cv,rfl,hcv,hbg,hgw,hat⟩:=hW.at h0;have hn0:0<way.length:=xU.2 h0;obtain⟨a,b,c',d',hwc⟩:=hat (way.length-1) (by omega);have hlast:way.getLast? =some (way[way.length-1]'(by omega)):=by rw [List.getLast?_eq_getElem?,Af (by omega)]
  have Zz:=Aa (hp (way[way.length-1]'(by omega)) (List.getElem_mem _));generalize way[way.length-1]'(by omega)=last at*;have OO:Hid (CX way rest=if last.nd.pre=rest then some last else none):=Aa (by rw [CX,hlast]);have t0:((way.length:Int)==0)=false:=by rw [beq_eq_false_iff_ne];omega
  obtain⟨m,hm⟩:∃m,m=way.length-1:=⟨_,rfl⟩;have hw1:IntKind.i64.wrap ((way.length:Int) -1)=(m:Int):=(wrap64 _ (by omega) (by omega)).trans (by omega);have hx1:decide ((m:Int)<(way.length:Int))=true:=decide_eq_true (by omega);have hx2:m<way.length:=by omega
  have hx3:(m:Int)<(way.length:Int):=by omega
  obtain⟨A1,p1,A2,p2,A3,p3,e,o1,o2,o3⟩:=hwc.nd;simp only [Value.agg.injEq]at e;simp at e;obtain⟨rfl,rfl,rfl,rfl⟩:=e;have HC:Hid (∀j v,[Ac A1 last.nd.pre.length p1,.int .u64 (last.nd.val.toNat:Int),.slice A2 last.nd.labels.length p2,.slice A3 last.nd.kids.length p3,.int .i64 last.off,.int .u8 (last.label.toNat:Int),.int .i64 last.word][j]? =some v->w.cell? ⟨g,7*m+j,none⟩=some v):=Aa (by rw [hm];exact hwc.cells);have HN:=Aa hwc.nd;have hz:∀j v,[Ac A1 last.nd.pre.length p1,.int .u64 (last.nd.val.toNat:Int),.slice A2 last.nd.labels.length p2,.slice A3 last.nd.kids.length p3,.int .i64 last.off,.int .u8 (last.label.toNat:Int),.int .i64 last.word][j]? =some v->(w.alloc (.cells #[.slice none 0 0,.int .u64 0,.slice none 0 0,.slice none 0 0,.int .i64 0,.int .u8 0,.int .i64 0] 214)).cell? ⟨g,m*7+j,none⟩=some v:=fun j v hj=>by
   rw [hb0.cell (p:=⟨g,m*7+j,none⟩) hgw,Iw];exact HC.out j v hj
  have z0:=hz 0 _ rfl;have z1:=hz 1 _ rfl;have z2:=hz 2 _ rfl;have z3:=hz 3 _ rfl;have z4:=hz 4 _ rfl;have z5:=hz 5 _ rfl;have z6:=hz 6 _ rfl;rw [Nat.add_zero]at z0;have HB0:=Aa B0;have Hb0:=Aa hb0;have HR:=Aa hR;clear hat hlast hW hwc o1 o2 o3 hm B0 hz HC hR hb0;go_enter Tryz.func111,Tryz.ntmps111
  go_wp2_with fail
  have B1:=HB0.out.below ((Below.refl _ _).alloc (Ad _) (.cells #[Ac A1 last.nd.pre.length p1,.int .u64 (last.nd.val.toNat:Int),.slice A2 last.nd.labels.length p2,.slice A3 last.nd.kids.length p3,.int .i64 last.off,.int .u8 (last.label.toNat:Int),.int .i64 last.word] 214)) HB0.out.lt;have B2:CG ((w.alloc (.cells #[.slice none 0 0,.int .u64 0,.slice none 0 0,.slice none 0 0,.int .i64 0,.int .u8 0,.int .i64 0] 214)).alloc (.cells #[Ac A1 last.nd.pre.length p1,.int .u64 (last.nd.val.toNat:Int),.slice A2 last.nd.labels.length p2,.slice A3 last.nd.kids.length p3,.int .i64 last.off,.int .u8 (last.label.toNat:Int),.int .i64 last.word] 214)) (w.heap.size+1) 214 [Ac A1 last.nd.pre.length p1,.int .u64 (last.nd.val.toNat:Int),.slice A2 last.nd.labels.length p2,.slice A3 last.nd.kids.length p3,.int .i64 last.off,.int .u8 (last.label.toNat:Int),.int .i64 last.word]:=yS _ _ _ _;have hb2:=Hb0.out.alloc Hb0.out.size (.cells #[Ac A1 last.nd.pre.length p1,.int .u64 (last.nd.val.toNat:Int),.slice A2 last.nd.labels.length p2,.slice A3 last.nd.kids.length p3,.int .i64 last.off,.int .u8 (last.label.toNat:Int),.int .i64 last.word] 214);clear z0 z1 z2 z3 z4 z5 z6;generalize((w.alloc (.cells #[.slice none 0 0,.int .u64 0,.slice none 0 0,.slice none 0 0,.int .i64 0,.int .u8 0,.int .i64 0] 214)).alloc (.cells #[Ac A1 last.nd.pre.length p1,.int .u64 (last.nd.val.toNat:Int),.slice A2 last.nd.labels.length p2,.slice A3 last.nd.kids.length p3,.int .i64 last.off,.int .u8 (last.label.toNat:Int),.int .i64 last.word] 214))=W2 at*;obtain⟨A1',p1',A2',p2',A3',p3',e,o1,o2,o3⟩:=HN.out;simp only [Value.agg.injEq]at e;simp at e;obtain⟨⟨rfl,rfl⟩,⟨rfl,rfl⟩,⟨rfl,rfl⟩⟩:=e;refine(vV A1 A last.nd.pre.length rest.length p1 c last.nd.pre rest W2 (by have:=Zz.out;omega) (by omega) (CB (own_below o1 hb2)).2 (HR.out.below hb2)).mono ?_;clear o1 o2 o3;rintro e w3⟨rfl,hd3⟩;have hb3:=hb2.trans ((hd3.below W2.heap.size).mono hb2.size);replace B1:=B1.below (hd3.below _) B1.lt;replace B2:=B2.below (hd3.below _) B2.lt;clear hb2 hd3 HR;obtain⟨f0,f1,f2,f3,f4,f5,f6⟩:=Aqr B1;obtain⟨y0,y1,y2,y3,y4,y5,y6⟩:=ED B1;obtain⟨z0,z1,z2,z3,z4,z5,z6⟩:=ED B2;have hg1:w.heap.size≠w.heap.size+1:=by omega
  by_cases he:last.nd.pre=rest
  ·have HV:Hid (CX way rest=some last):=Aa (by rw [OO.out,if_pos he]);have hd:decide (last.nd.pre=rest)=true:=decide_eq_true he;rw [hd];clear OO hd he;have HB:=Aa B1;have Hb:=Aa hb3;clear B1 B2 hb3 HB0 Hb0
   go_wp2_with fail
   obtain⟨W9,Vt,BF,KL, -⟩:=Aqs HB.out Hb.out (Ad _) (Ac A1 last.nd.pre.length p1) (.int .u64 (last.nd.val.toNat:Int)) (.slice A2 last.nd.labels.length p2) (.slice A3 last.nd.kids.length p3) (.int .i64 last.off) (.int .u8 (last.label.toNat:Int)) (.int .i64 last.word);rw [<-Vt];refine VM rfl w.heap.size BF (.bool true) rfl rfl ⟨KL,?_⟩;rw [HV.out];exact⟨_,_,_,_,rfl,HN.out.below KL⟩
  ·have HV:Hid (CX way rest=none):=Aa (by rw [OO.out,if_neg he]);have hd:decide (last.nd.pre=rest)=false:=decide_eq_false he;rw [hd];clear OO hd he;have HB:=Aa B1;have Hb:=Aa hb3;clear B1 B2 hb3 HB0 Hb0 z0 z1 z2 z3 z4 z5 z6
   go_wp2_with fail
   obtain⟨W9,Vt,BF,KL, -⟩:=Aqs HB.out Hb.out (Ad _) (.slice none 0 0) (.int .u64 0) (.slice none 0 0) (.slice none 0 0) (.int .i64 0) (.int .u8 0) (.int .i64 0);rw [<-Vt];refine VM rfl w.heap.size BF (.bool false) rfl rfl ⟨KL,?_⟩;rw [HV.out];rfl
def Dy(w w':World):Prop:=w.heap.size<=w'.heap.size/\∀(g:Nat)(cs:Array Value)(e:TypeId)(fz:Nat×Nat),(e=5\/e=28\/e=212)->w.heap[g]? =some (Obj.cells cs e fz)->w'.heap[g]? =w.heap[g]?
theorem Dy.refl(w:World):Dy w w:=⟨Ad _,fun _ _ _ _ _ _=>rfl⟩
theorem Dy.of_below{w w':World}(h:Below w.heap.size w w'):Dy w w':=⟨h.size,fun g _ _ _ _ hg=>h.block g (AB.1 hg).1⟩
theorem Dy.trans{a b c:World}(h:Dy a b)(k:Dy b c):Dy a c:=
 ⟨Bg h.1 k.1,fun g cs e fz he hg=>by
  have h1:=h.2 g cs e fz he hg;exact(k.2 g cs e fz he (h1.trans hg)).trans h1⟩
theorem Dy.Ai2{w w':World}{g:Nat}(h:Kept w w' (some g))(hg:∀(cs:Array Value)(e:TypeId)(fz:Nat×Nat),(e=5\/e=28\/e=212)->w.heap[g]?≠some (Obj.cells cs e fz)):Dy w w':=
 ⟨h.1,fun g' cs e fz he hg'=>h.2 g' (AB.1 hg').1 (fun e'=>by injection e' with e';subst e';exact hg cs e fz he hg')⟩
theorem Dy.own{w w':World}{base k n:Nat}{e:TypeId}{v:Value}{xs:List Value}(h:Dy w w')(he:e=5\/e=28\/e=212)(ho:w.ownsRow base e k v n xs):w'.ownsRow base e k v n xs:=by
 refine⟨ho.1,?_⟩;rcases ho.2 with h1| ⟨g,cap,cur,h1,h2,h3,h4⟩
 ·exact .inl h1
 ·exact .inr ⟨g,cap,cur,h1,h2,(h.2 g _ _ _ he h3).trans h3,h4⟩
theorem Dy.nd{w w':World}{base:Nat}{v:Value}{x:Nd}(s:Dy w w')(h:Xc w base v x):Xc w' base v x:=by
 obtain⟨A1,c1,A2,c2,A3,c3,e,h1,h2,h3⟩:=h;exact⟨A1,c1,A2,c2,A3,c3,e,s.own (.inl rfl) h1,s.own (.inl rfl) h2,s.own (.inr (.inl rfl)) h3⟩
theorem Dy.box{w w':World}{g:Nat}{xs:List Value}(s:Dy w w')(h:CG w g 212 xs):CG w' g 212 xs:=(s.2 g _ _ _ (.inr (.inr rfl)) h).trans h
def Le(w:World)(A:Option Addr)(l:List UInt8):Prop:=
 Bs w A l.length l/\(∀a,A=some a->∃(g:Nat)(cs:Array Value)(fz:Nat×Nat),a=⟨g,0,none⟩/\w.heap[g]? =some (Obj.cells cs 5 fz))/\(A=none->l=[])
theorem Le.nil(w:World):Le w none []:=by
 refine⟨Rd.nil,?_,fun _=>rfl⟩;intro a e;cases e
theorem Le.keep{w w':World}{A:Option Addr}{l:List UInt8}(h:Le w A l)(s:Dy w w'):Le w' A l:=by
 obtain⟨h1,h2,h3⟩:=h;refine⟨⟨h1.1,fun hn=> ?_⟩,fun a e=> ?_,h3⟩
 ·obtain⟨b,off,e,hb,hc⟩:=h1.2 hn;obtain⟨g,cs,fz,e2,hg⟩:=h2 _ e;injection e2 with e3 e4
  subst e3 e4;exact⟨_,_,e,Cf hb s.1,fun j hj=>(Bz (w:=w) (s.2 _ _ _ _ (.inl rfl) hg)).trans (hc j hj)⟩
 ·obtain⟨g,cs,fz,e2,hg⟩:=h2 a e;exact⟨g,cs,fz,e2,(s.2 _ _ _ _ (.inl rfl) hg).trans hg⟩
theorem Le.cut{w w':World}{A A':Option Addr}{l m:List UInt8}(h:Le w A l)(hr:Rd w' A' (l.length+m.length) (l.map bv++m.map bv))(hb:Below w.heap.size w w')(hc:yE w w' 5 A A' m.length):Le w' A' (l++m):=by
 refine⟨?_,fun a e=> ?_,fun e=> ?_⟩
 ·rw [AQ];show Rd w' A' _ ((l++m).map bv);rw [Dq];exact hr
 ·rcases hc with⟨rfl,_⟩| ⟨g,cs,e1,_,e3⟩
  ·obtain⟨g,cs,fz,e2,hg⟩:=h.2.1 a e;exact⟨g,cs,fz,e2,(hb.block _ (AB.1 hg).1).trans hg⟩
  ·rw [e1]at e;injection e with e
   exact⟨g,cs,_,e.symm,e3⟩
 ·rcases hc with⟨rfl,e2⟩| ⟨g,cs,e1,_⟩
  ·rw [h.2.2 e,List.eq_nil_of_length_eq_zero e2];rfl
  ·rw [e1]at e;exact nomatch e
def itV(p:List UInt8×UInt64):List Value:=[.string ⟨p.1.toArray⟩,.int .u64 (p.2.toNat:Int)]
structure Ez(w:World)(base sb mb x:Nat)(items:List (List UInt8×UInt64))(met:List Int)(v:Value):Prop where
 box:CG w sb 174 [Aw x,v,.map (some mb)]
 row:w.ownsRow base 104 2 v items.length (items.map itV).flatten
 map:Kt w mb (met.map fun o=>(o,1))
 bs:base<=sb
 bm:base<=mb
 vs:v.ownBlock≠some sb
 vX:met.Nodup
 rng:∀o∈met,0<=o/\o<=65536
 len:items.length<=met.length
theorem OY:∀(N:Nat)(l:List Int),l.Nodup->(∀o∈l,0<=o/\o<(N:Int))->l.length<=N
 | 0,l,_,h=>by
   cases l with
   | nil=>simp
   | cons a t=>have:=h a (List.mem_cons_self ..);omega
 | N+1,l,hn,h=>by
   by_cases hm:(N:Int)∈l
   ·have h1:=OY N (l.erase (N:Int)) (hn.erase _) (fun o ho=>by
    have:=(hn.mem_erase_iff).1 ho;have:=h o this.2;omega)
    rw [List.length_erase_of_mem hm]at h1;omega
   ·have:=OY N l hn (fun o ho=>by
    have h2:=h o ho;have:o≠(N:Int):=fun e=>hm (e▸ho)
    omega)
    omega
section
variable{w w':World}{base sb mb x:Nat}{items:List (List UInt8×UInt64)}{met:List Int}{v:Value}
theorem Ez.few(h:Ez w base sb mb x items met v):items.length<=65537:=
 Bg h.len (OY 65537 met h.vX (fun o ho=>by have:=h.rng o ho;omega))
theorem Ez.sm(h:Ez w base sb mb x items met v):sb≠mb:=by
 intro e;have h1:=h.box;have h2:=h.map;unfold CG at h1;unfold Kt at h2;rw [e,h2]at h1;injection h1 with h1
 cases h1
theorem Ez.vm(h:Ez w base sb mb x items met v):v.ownBlock≠some mb:=by
 intro e;rcases h.row.2 with⟨h1,_⟩| ⟨g,cap,cur,h1,_,h3,_⟩
 ·subst h1;exact nomatch e
 ·subst h1;simp only [Ba,Option.some.injEq]at e;subst e;have h2:=h.map;unfold Kt at h2;rw [h2]at h3;injection h3 with h3
  cases h3
theorem Ez.below(h:Ez w base sb mb x items met v)(k:Below w.heap.size w w'):Ez w' base sb mb x items met v:=
 ⟨h.box.below k h.box.lt,EO h.row (Kept.of_below (r:=some sb) k) (.inl (fun e=>h.vs e.symm)),h.map.below k,h.bs,h.bm,h.vs,h.vX,h.rng,h.len⟩
theorem Ez.note(h:Ez w base sb mb x items met v){o:Int}(ho:0<=o/\o<=65536)(hn:o∉met):Ez (Ey w mb (Ig 0 ((met++[o]).map fun o=>(o,1))).toArray ((met++[o]).map fun o=>(o,(1:Int))).length) base sb mb x items (met++[o]) v/\
 Dy w (Ey w mb (Ig 0 ((met++[o]).map fun o=>(o,1))).toArray ((met++[o]).map fun o=>(o,(1:Int))).length)/\Below base w (Ey w mb (Ig 0 ((met++[o]).map fun o=>(o,1))).toArray ((met++[o]).map fun o=>(o,(1:Int))).length):=by
 have hne:∀(cs:Array Value)(e:TypeId)(fz:Nat×Nat),w.heap[mb]?≠some (Obj.cells cs e fz):=fun cs e fz hg=>by
  have h2:=h.map;unfold Kt at h2;rw [h2]at hg;injection hg with hg
  cases hg
 have t:=Jh w mb (Ig 0 ((met++[o]).map fun o=>(o,1))).toArray ((met++[o]).map fun o=>(o,(1:Int))).length;refine⟨⟨h.box.touch t h.sm,H6 h.row t (fun g hg e=>h.vm (by rw [hg,e])),Nl _ _ _ _ h.map.lt,h.bs,h.bm,h.vs,?_,?_,?_⟩,⟨t.size,fun g cs e fz _ hg=>t.block g (AB.1 hg).1 (fun e'=>hne cs e fz (e'▸hg))⟩,t.below (IC (Hq h.bm h.map.lt)) (fun k e=>e▸h.bm)⟩
 ·exact Cj.2 ⟨h.vX,Ht.2 ⟨by simp,Ux⟩,fun a ha b hb=>by rw [BC]at hb;subst hb;exact fun e=>hn (e▸ha)⟩
 ·intro a ha;rcases AL.1 ha with h1| h1
  ·exact h.rng a h1
  ·rw [BC]at h1;exact h1▸ho
 ·have:=h.len;simp;omega
theorem Ez.add(h:Ez w base sb mb x items met v)(p:List UInt8×UInt64)(hl:items.length<met.length){g6 c6:Nat}{w6:World}
 (hO:w6.ownsRow base 104 2 (.slice (some ⟨g6,0,none⟩) (items.length+1) c6) (items.length+1) ((items.map itV).flatten++itV p))(hB:Below base w w6)(hK:Kept w w6 v.ownBlock)(hg:v.ownBlock=some g6\/w.heap.size<=g6):
 Ez (w6.setCell ⟨sb,1,none⟩ (.slice (some ⟨g6,0,none⟩) (items.length+1) c6)) base sb mb x (items++[p]) met (.slice (some ⟨g6,0,none⟩) (items.length+1) c6)/\
  Dy w (w6.setCell ⟨sb,1,none⟩ (.slice (some ⟨g6,0,none⟩) (items.length+1) c6))/\Below base w (w6.setCell ⟨sb,1,none⟩ (.slice (some ⟨g6,0,none⟩) (items.length+1) c6)):=by
 have hsl:=h.box.lt;have hml:=h.map.lt;have hgs:g6≠sb:=by
  rintro rfl;rcases hg with e| e
  ·exact h.vs e
  ·omega
 have B6:CG w6 sb 174 [Aw x,v,.map (some mb)]:=(hK.2 sb hsl (fun e=>h.vs e.symm)).trans h.box;have M6:w6.heap[mb]? =w.heap[mb]? :=hK.2 mb hml (fun e=>h.vm e.symm);have k9:=Kept.AZ w6 sb 1 (.slice (some ⟨g6,0,none⟩) (items.length+1) c6);have s6:Dy w w6:=by
  refine⟨hK.1,fun g cs e fz he hg'=>hK.2 g (AB.1 hg').1 (fun e'=> ?_)⟩;rcases h.row.2 with⟨h1,_⟩| ⟨g',cap,cur,h1,_,h3,_⟩
  ·subst h1;exact nomatch e'
  ·subst h1;simp only [Ba,Option.some.injEq]at e';subst e';rw [hg']at h3;injection h3 with h3
   injection h3 with _ h4
   rw [h4]at he;exact absurd he (by decide)
 have s9:Dy w6 (w6.setCell ⟨sb,1,none⟩ (.slice (some ⟨g6,0,none⟩) (items.length+1) c6)):=Dy.Ai2 k9 (fun cs e fz he hg'=>by
  have h3:w6.heap[sb]? =_:=B6;rw [hg']at h3;injection h3 with h3
  injection h3 with _ h4
  rw [h4]at he;exact absurd he (by decide))
 refine⟨⟨B6.AZ 1 _,?_,?_,h.bs,h.bm,by simp [Ba,hgs],h.vX,h.rng,by simp;omega⟩,s6.trans s9,hB.setCell (p:=⟨sb,1,none⟩) h.bs _⟩
 ·have:=EO hO k9 (.inl (by simp [Ba,Ne.symm hgs]));simpa using this
 ·show(w6.setCell _ _).heap[mb]? =_;rw [k9.2 mb (Cf hml hK.1) (fun e=>h.sm (Option.some.inj e).symm),M6];exact h.map
end
structure LD(s:St)(l:List Lk):Prop where
 vX:(l.map (·.off)).Nodup
 at_:∀k∈l,0<=k.off/\k.off<=65536/\D5 s k.off=1/\KJ (wordsAt s.ws (k.off.toNat/8) 8)=some k.rc/\EC l<=k.rc.stamp.toNat
theorem LD.nil(s:St):LD s []:=⟨Ux,fun _ h=>nomatch h⟩
theorem Gy(l:List Lk)(k:Lk):EC (l++[k])=k.rc.stamp.toNat:=by
 unfold EC;rw [List.getLast?_append];rfl
theorem LD.step{s:St}{l:List Lk}(h:LD s l){off:Int}{r:Rc}(ho:0<=off/\off<=65536)(hc:D5 s off=1)(hd:KJ (wordsAt s.ws (off.toNat/8) 8)=some r)(hs:r.stamp.toNat<EC l):LD s (l++[⟨off,r⟩]):=by
 refine⟨?_,fun k hk=> ?_⟩
 ·rw [Dq];refine Cj.2 ⟨h.vX,by simp,fun a ha b hb=> ?_⟩;rw [List.map_singleton,BC]at hb;subst hb;rintro rfl;obtain⟨k,hk,e⟩:=Bf.1 ha;obtain⟨_,_,_,h3,h4⟩:=h.at_ k hk;rw [e,hd]at h3;injection h3 with h3
  rw [<-h3]at h4;omega
 ·rw [Gy];rcases AL.1 hk with hk| hk
  ·obtain⟨h1,h2,h3,h4,h5⟩:=h.at_ k hk;exact⟨h1,h2,h3,h4,by show r.stamp.toNat<=_;omega⟩
  ·rw [BC]at hk;subst hk;exact⟨ho.1,ho.2,hc,hd,Ad _⟩
theorem LD.few{s:St}{l:List Lk}(h:LD s l):l.length<=65537:=by
 have:=OY 65537 (l.map (·.off)) h.vX (fun o ho=>by
  obtain⟨k,hk,rfl⟩:=Bf.1 ho;obtain⟨h1,h2,_⟩:=h.at_ k hk;omega)
 rwa [BH]at this
theorem Abs{L:Nat}{s:St}{off:Int}(ok:aX L s.sh)(hn:s.tk.length=s.sh.BI)(hL:L<=1024)(h:D5 s off=1):0<=off/\off<=65536/\off=((8*(off.toNat/8):Nat):Int)/\off.toNat/8+8<=8*L:=by
 obtain⟨i,a,hi,ho,_,hfit⟩:=UT (s:=s) (off:=off) (by rw [h];decide);rw [h]at ho hfit;simp only [Be]at ho hfit;have:=ok.data;have:=ok.fits;have:=ok.BI;rw [hn]at hi;omega
theorem Tryz.Ai3:Jt Tryz.prog 99 104 (.agg #[.string ⟨#[]⟩,.int .u64 0]) 2 24:=⟨Tryz.underlying99,by kernel_rfl,rfl⟩
theorem Tryz.JO:Tryz.prog.underlying 172=some (.map 3 3):=Tryz.underlying172
theorem Tryz.XY(W:World):(zeroValue 3).run Tryz.prog W= .ok (.int .i64 0) W:=by
 have h:(Tryz.prog.info? 3).map (·.zero)=some (some (.int .i64 0)):=by kernel_rfl
 cases hi:Tryz.prog.info? 3 with
 | none=>rw [hi]at h;cases h
 | some i=>
   rw [hi]at h;simp only [Option.map_some,Option.some.injEq]at h;simp [zeroValue,typeInfo,hi,h]
def MX(r:Option (List (List UInt8×UInt64)×List Int))(base sb mb x:Nat)(w:World)(e:Ending)(w':World):Prop:=
 Below base w w'/\Dy w w'/\match r with
  | none=>e= .returned (.int .i64 5)
  | some (items',met')=>e= .returned (.int .i64 0)/\∃v',Ez w' base sb mb x items' met' v'
section
variable{len:Mode}{w w':World}{base sb mb x d p L:Nat}{s:St}{F:Nat->Prop}
theorem IX.past(h:IX len w x d p L s F)(k:Below base w w')(hF:∀b,F b->b<base)(hx:x<base)(ht:0<base/\1<base):IX len w' x d p L s F:=by
 have t:Touch (fun b=>base<=b) w w':=⟨k.os,k.tape,k.output,k.size,fun b _ hn=>k.block b (by omega)⟩;exact⟨h.sys.keep t (fun b hb hn=>by have:=hF b hb;omega) (by omega) (by omega),h.box.touch t (by omega),h.out⟩
theorem dU{o:Int}:∀{l:List Int},o∈l->l.Nodup->∃l1 l2,l=l1++o::l2/\o∉l1
 | [],h,_=>by cases h
 | a::t,h,hn=>by
   obtain⟨h1,h2⟩:=Ht.1 hn;rcases CZ.1 h with rfl| ho
   ·exact⟨[],t,rfl,by simp⟩
   ·obtain⟨l1,l2,e,hno⟩:=dU ho h2;refine⟨a::l1,l2,by rw [e];rfl,fun hm=> ?_⟩;rcases CZ.1 hm with rfl| hm
    ·exact h1 ho
    ·exact hno hm
theorem vY(h:IX len w x d p L s F)(_:∀b,F b->b<base){items:List (List UInt8×UInt64)}{met:List Int}{v:Value}(hs:Ez w base sb mb x items met v)(f:Nat)(name:UInt64)(ahead:List UInt8)(A:Option Addr)(c:Nat)(hr:EZ s name=none):
 Calls Tryz.prog 122 #[Aw sb,.int .u64 (name.toNat:Int),.slice A ahead.length c] w (MX (Dp s (f+1) name ahead (items,met)) base sb mb x w):=by
 have HP:Hid (Dp s (f+1) name ahead (items,met)=none):=Aa (by rw [Dp,hr]);have HR:=Aa (JL h name);have HRn:=Aa hr;have y0:=hs.box.p1;have hbs:base<=w.heap.size:=IC (Hq hs.bs hs.box.lt);clear h hs hr;go_enter Tryz.func122,Tryz.ntmps122
 go_wp2_with fail
 refine HR.out.mono ?_;rintro e w1⟨hb1,hp1⟩;rw [HRn.out]at hp1;subst hp1;have HB:=Aa (hb1.mono hbs);have kS:=Aa (Dy.of_below hb1);clear hb1 HR
 go_wp2_with fail
 go_ret;refine⟨HB.out.alloc (Bg hbs HB.out.size) _,kS.out.trans (Dy.of_below ((Below.refl _ _).alloc (Ad _) _)),?_⟩;rw [HP.out];rfl
theorem Abt(h:IX len w x d p L s F)(_:∀b,F b->b<base){items:List (List UInt8×UInt64)}{met:List Int}{v:Value}(hs:Ez w base sb mb x items met v)(f:Nat)(name:UInt64)(ahead:List UInt8)(A:Option Addr)(c:Nat)(hA:Le w A ahead)(hac:ahead.length<=c)(hal:ahead.length<=33)(nd:Nd)(hr:EZ s name=some nd)(hm:Bi name∈met):
 Calls Tryz.prog 122 #[Aw sb,.int .u64 (name.toNat:Int),.slice A ahead.length c] w (MX (Dp s (f+1) name ahead (items,met)) base sb mb x w):=by
 have HP:Hid (Dp s (f+1) name ahead (items,met)=none):=Aa (by rw [Dp,hr];simp only;rw [if_pos (.inl (by simpa using hm))]);have HR:=Aa (JL h name);have HRn:=Aa hr;have HS:=Aa hs;have hwr:IntKind.i64.wrap (name.toNat:Int)=Bi name:=rfl;have hbl:=(FM hr).1;have y0:=hs.box.p1;have hbs:base<=w.heap.size:=IC (Hq hs.bs hs.box.lt);obtain⟨l1,l2,hl,hno⟩:=dU hm hs.vX;have HL:=Aa hl;have SE:Hid (∀q∈l1.map (fun o=>(o,(1:Int))),q.1≠Bi name):=Aa (fun q hq=>by
  obtain⟨o,ho,rfl⟩:=Bf.1 hq;exact fun e=>hno (e▸ho))
 have HA:=Aa hA;generalize Bi name=off at*;clear h hs hr hm hl hno hA;go_enter Tryz.func122,Tryz.ntmps122
 go_wp2_with fail
 refine HR.out.mono ?_;rintro e w1⟨hb1,hp1⟩;rw [HRn.out]at hp1;obtain⟨vn,rfl,hnd⟩:=hp1;obtain⟨A1,c1,A2,c2,A3,c3,rfl,o1,o2,o3⟩:=hnd;obtain⟨W2,hW2,GX,BN⟩:=FB w1 212 [.slice A1 nd.pre.length c1,.int .u64 (nd.val.toNat:Int),.slice A2 nd.labels.length c2,.slice A3 nd.kids.length c3];have hb2:Below w.heap.size w W2:=hb1.trans (GX.mono hb1.size);have S2:=HS.out.below hb2;have hmap:Kt W2 mb (l1.map (fun o=>(o,(1:Int)))++(off,1)::l2.map (fun o=>(o,(1:Int)))):=by
  have:=S2.map;rw [HL.out]at this;simpa using this
 have k1:=OQ Tryz.JO Tryz.underlying3 W2 mb _ _ off 1 hmap SE.out;have k2:=Aim Tryz.JO Tryz.underlying3 W2 mb _ _ off 1 2 hmap SE.out;obtain⟨W3,hW3⟩:∃W3,W3=Ey W2 mb (Ig 0 (l1.map (fun o=>(o,(1:Int)))++(off,2)::l2.map (fun o=>(o,(1:Int))))).toArray (l1.map (fun o=>(o,(1:Int)))++(off,2)::l2.map (fun o=>(o,(1:Int)))).length:=⟨_,rfl⟩;rw [<-hW3]at k2;have t3:Touch (fun b=>b=mb) W2 W3:=hW3▸Jh _ _ _ _;have hm3:Kt W3 mb (l1.map (fun o=>(o,(1:Int)))++(off,2)::l2.map (fun o=>(o,(1:Int)))):=by rw [hW3];exact Nl _ _ _ _ hmap.lt
 have hk3:Dy W2 W3:=⟨t3.size,fun g cs e fz _ hg=>t3.block g (AB.1 hg).1 (fun e'=>by
  unfold Kt at hmap;rw [e',hmap]at hg;injection hg with hg
  cases hg)⟩
 have Gh:Below base W2 W3:=t3.below (Bg hbs hb2.size) (fun k e=>e▸S2.bm);have kT:=hk3.box BN;have yU:=(HA.out.keep (Dy.of_below hb2)).keep hk3;have hpre:Rd W3 A1 nd.pre.length (nd.pre.map bv):=(CB (hk3.own (.inl rfl) (own_below o1 GX))).2;have S3:CG W3 sb 174 [Aw x,v,.map (some mb)]:=S2.box.touch t3 S2.sm;clear hW3;have z0:=S2.box.cell 0;have z2:=S2.box.cell 2;simp only [Aj,Az]at z0 z2;rw [hW2]at k1 k2 z0 z2;have HW2:=Aa hW2;clear y0 HR hW2
 go_wp2_with fail
 obtain⟨n0,n1,n2,n3, -⟩:=C9 kT;have HB3:=Aa ((hb2.mono hbs).trans Gh);have Oi:=Aa ((Dy.of_below hb2).trans hk3);have HM3:=Aa hm3;have OC:=Aa S3;have HR3:=Aa yU;have je:=Aa hpre;clear k1 k2 z0 z2 hb1 GX hb2 S2 hmap t3 hk3 Gh BN kT yU hpre o1 o2 o3 hm3 S3
 go_region_law(refine Jj rfl (.tmp 42) (.tmp 44) 22 rfl Tryz.Gi A ahead.length (ahead.map bv) (by simp [Act.eval]) (by exact HR3.out.1) (fun a e=>by obtain⟨g,_,_,e',_⟩:=HR3.out.2.1 a e;exact⟨g,e'⟩) (fun e=>by rw [HR3.out.2.2 e];rfl) A1 nd.pre.length c1 (nd.pre.map bv) (by simp [Act.eval]) (by exact je.out) (Gu _) (by omega) (by decide) ?_;intro A4 c4 w4 hc4 hr4 hb4 OZ)
 all_goals(have Gz:Below W3.heap.size W3 w4:=((Dr.drew W3).below _).trans hb4)
 all_goals(have k5:=OQ Tryz.JO Tryz.underlying3 w4 mb _ _ off 2 (HM3.out.below Gz) SE.out)
 all_goals(have S4:=OC.out.below Gz OC.out.lt)
 all_goals(have z0:=S4.cell 0)
 all_goals(have z2:=S4.cell 2)
 all_goals(simp only [Aj,Az]at z0 z2)
 all_goals(have HB4:=Aa (HB3.out.trans (Gz.mono (Bg hbs (by have:=HB3.out.size;exact this)))))
 all_goals(have oh:=Aa (Oi.out.trans (Dy.of_below Gz)))
 all_goals(clear Gz hb4 OZ hr4 S4 HM3 OC HR3 je n0 n1 n2 n3 HA SE HL HS)
 all_goals(go_wp2_with fail)
 all_goals(go_ret)
 all_goals(refine⟨HB4.out,oh.out,?_⟩)
 all_goals(rw [HP.out])
 all_goals rfl
end
theorem Tryz.Afp:Jt Tryz.prog 22 5 (.int .u8 0) 1 1:=⟨Tryz.underlying22,by kernel_rfl,rfl⟩
def bu(ws:Nat->UInt64)(k:Nat):List UInt8:=((List.range k).map fun i=>leBytes (En ws i)).flatten
theorem dV(ws:Nat->UInt64)(k:Nat):bu ws (k+1)=bu ws k++leBytes (En ws k):=by
 unfold bu;rw [List.range_succ,Dq,List.flatten_append];simp
theorem Abu{w:World}{d L:Nat}{ws:Nat->UInt64}{len:Mode}{mark:Nat->Nat}{own:Nat->Prop}(h:Dev w d L ws len mark own)(hL0:0<L)(hL:L<=1024):
 Calls Tryz.prog 11 #[Aw d] w fun e w'=>∃v,e= .returned v/\w'.ownsRow w.heap.size 5 1 v (64*L) ((bu ws L).map bv)/\Below w.heap.size w w':=by
 have ax:=Aa (fun W(k:Below w.heap.size w W)=>(h.below k).size hL);obtain⟨g,hb0,hr,ho⟩:=h;obtain⟨st,hbx⟩:=hr.box;have HD:=Aa (fun W(k:Below w.heap.size w W)=>(hbx.below k hbx.lt).cell 0);have HLn:=Aa (fun W(k:Below w.heap.size w W)i(hi:i<L)=>Bs.below (hr.line i hi) k);obtain⟨sz,hsz⟩:∃sz,sz=L*64:=⟨_,rfl⟩;have hsz1:sz<=65536:=by omega
 have t0:((sz:Int)==0)=false:=by rw [beq_eq_false_iff_ne];omega
 obtain⟨i0,hi,hz0,hz1,hz2⟩:=info_parts Tryz.Afp.hi;have hmk:∀W:World,(Instr.makeSlice 22 (.int .i64 0) (.int .i64 (sz:Int))).run Tryz.prog W= .ok (.slice (some ⟨W.heap.size,0,none⟩) 0 sz) (W.alloc (.cells (madeCells (Au .u8 0).cells (sz*1)) 5)):=fun W=>by
  have:=run_make (P:=Tryz.prog) (w:=W) 22 5 i0 (.int .u8 0) Tryz.underlying22 hi hz0 .i64 .i64 0 (sz:Int) (by omega) (by omega) (by rw [hz2];omega) (by omega);rw [hz1]at this;simpa using this
 obtain⟨zc,hzc⟩:∃zc,madeCells (Au .u8 0).cells (sz*1)=zc:=⟨_,rfl⟩;have hzs:zc.size=sz:=by rw [<-hzc];simp [madeCells]
 have HOw:Hid (∀W:World,(W.alloc (.cells zc 5)).ownsRow W.heap.size 5 1 (.slice (some ⟨W.heap.size,0,none⟩) 0 sz) 0 []):=Aa (fun W=>⟨by simp,.inr ⟨W.heap.size,sz,zc,rfl,Ad _,heap_alloc_new _ _,BK _,Bg hsz1 (by decide),by omega,by simp⟩⟩);rw [hzc]at hmk;rw [<-hsz]at ax;have HS:=Aa hsz;have d0:=HD.out w (Below.refl _ _);simp only [Aj]at d0;clear hbx hr ho hi hz0 hz1 hz2 hzc hsz;go_enter Tryz.func11,Tryz.ntmps11
 go_wp2_with fail
 refine(ax.out w (Below.refl _ _)).mono ?_;rintro e w1⟨rfl,rfl⟩
 go_wp2_with fail
 refine(ax.out w (Below.refl _ _)).mono ?_;rintro e w1⟨rfl,rfl⟩;obtain⟨w2,hw2⟩:∃w2,w2=w.alloc (.cells zc 5):=⟨_,rfl⟩;have hb2:Below w.heap.size w w2:=hw2▸(Below.refl _ _).alloc (Ad _) _;have QB:Hid (w2.ownsRow w.heap.size 5 1 (.slice (some ⟨w.heap.size,0,none⟩) 0 sz) 0 []):=Aa (hw2▸HOw.out w);have HB2:=Aa hb2;have HW2:=Aa hw2;replace d0:=HD.out w2 hb2;simp only [Aj]at d0;rw [hw2]at d0;clear hw2 hb2
 go_wp2_with fail
 rw [<-HW2.out]
 go_loopw [3,16](fun u i wr=>∃k:Nat,k<=L/\i= .int .i64 (k:Nat)/\wr.ownsRow w.heap.size 5 1 u (64*k) ((bu ws k).map bv)/\Below w.heap.size w wr)(fun _ i _=>L- (intOf i).toNat)
 case atStart=>exact⟨0,BK _,rfl,QB.out,HB2.out⟩
 case round=>
  obtain⟨k,hk,rfl,hown,hb⟩:=hrel;have HO:=Aa hown;have HB:=Aa hb;have d1:=HD.out wr hb;simp only [Aj]at d1;clear hown hb QB HB2 d0;by_cases hlt:k<L
  ·obtain⟨hx1,hx2,hx5⟩:=aJ hlt;have hwk:=lh k (by omega);have hln:=HLn.out wr HB.out k hlt;rw [show 66*k=k*66 by omega]at hln;have HLk:=Aa hln;have HIm:Hid ((bu ws (k+1)).map bv=(bu ws k).map bv++(leBytes (En ws k)).map bv):=Aa (by rw [dV,Dq]);clear hln
   go_wp2_with(at_builtin;refine I4 rfl (.tmp 19) (.tmp 27) 22 rfl Tryz.Afp (by decide) w.heap.size u3 (64*k) ((bu ws k).map bv) rfl HO.out (some ⟨g,k*66,none⟩) 64 64 ((leBytes (En ws k)).map bv) rfl (by have:=HLk.out;exact this) (Gu _) (by omega) (by decide) HB.out.size ?_;intro v6 w6 Xa Nz hK6)
   have bz:=Aa Xa;have KO:=Aa (HB.out.trans Nz);clear Xa Nz hK6 HLk
   go_wp2_with fail
   go_roundw
   case rel=>exact⟨k+1,by omega,by go_num,by rw [HIm.out,show 64*(k+1)=64*k+64 by omega];exact bz.out,KO.out⟩
   case measure=>simp [intOf];omega
  ·have hkn:k=L:=by omega
   subst hkn
   go_wp2_with fail
   go_ret;exact⟨_,rfl,HO.out,HB.out⟩
def vZ(sh:Sh)(ky tx:ByteArray):Bool:=
 (match CQ (st0 sh) 1 with
  | none=>false
  | some (off,s1)=>decide ((IP {s1 with ws:=BQ s1.ws (off/8) (Dk ⟨1,0,false,tx⟩)} off).2=0))&&
 (decide ((IQ (st0 sh) ⟨1,0,false,tx⟩).2.2=0)&&decide ((KW (IQ (st0 sh) ⟨1,0,false,tx⟩).1 ky.data.toList (IQ (st0 sh) ⟨1,0,false,tx⟩).2.1).2=0))
def one1(sh:Sh)(tx:ByteArray):St:=(IQ (st0 sh) ⟨1,0,false,tx⟩).1
def Oj(sh:Sh)(tx:ByteArray):UInt64:=(IQ (st0 sh) ⟨1,0,false,tx⟩).2.1
def SV(sh:Sh)(ky tx:ByteArray):St:=(KW (one1 sh tx) ky.data.toList (Oj sh tx)).1
theorem Afq{sh:Sh}{ky tx:ByteArray}(h:vZ sh ky tx=true):∀off s1,CQ (st0 sh) 1=some (off,s1)->(IP {s1 with ws:=BQ s1.ws (off/8) (Dk ⟨1,0,false,tx⟩)} off).2=0:=by
 intro off s1 hr;unfold vZ at h;rw [hr]at h;rw [Bool.and_eq_true]at h;exact of_decide_eq_true h.1
theorem one_add{sh:Sh}{ky tx:ByteArray}(h:vZ sh ky tx=true):IQ (st0 sh) ⟨1,0,false,tx⟩=(one1 sh tx,Oj sh tx,0):=by
 unfold vZ at h;rw [Bool.and_eq_true,Bool.and_eq_true]at h;have h2:(IQ (st0 sh) ⟨1,0,false,tx⟩).2.2=0:=of_decide_eq_true h.2.1;unfold one1 Oj;rw [<-h2]
theorem yV{sh:Sh}{ky tx:ByteArray}(h:vZ sh ky tx=true):KW (one1 sh tx) ky.data.toList (Oj sh tx)=(SV sh ky tx,0):=by
 unfold vZ at h;rw [Bool.and_eq_true,Bool.and_eq_true]at h;have h2:(KW (one1 sh tx) ky.data.toList (Oj sh tx)).2=0:=of_decide_eq_true h.2.2;unfold SV;rw [<-h2]
theorem yX(sh:Sh)(ky:ByteArray)(hk:ky.size<=16):GI (st0 sh) ky.data.toList=(0,7):=by
 have hk':¬16<ky.data.toList.length:=by simpa using hk
 have h9:(st0 sh).ws 9=0:=Il sh 9 (by decide);unfold GI;rw [if_neg hk'];unfold FQ;rw [h9,Ep,if_pos rfl];rfl
