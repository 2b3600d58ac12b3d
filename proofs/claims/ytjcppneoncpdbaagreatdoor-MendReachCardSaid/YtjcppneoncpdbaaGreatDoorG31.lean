import Derived.OrdersHeld
import Derived.OrdersIn
import Derived.RangeFuncCalls
import Derived.TacticsIn
import Derived.Deep.RegionHeld
import Derived.Test.YtjcppneoncpdbaaGreatDoorG22
import Derived.Test.YtjcppneoncpdbaaGreatDoorG29
import Derived.Test.YtjcppneoncpdbaaGreatDoorG30
set_option maxHeartbeats 32000000
set_option maxRecDepth 100000
open List renaming getElem?_cons_zero->Ad,getElem?_cons_succ->Af,getElem_mem->CU,getElem_toArray->Au,getElem_cons_zero->Aj,setIfInBounds_toArray->Ah,set_cons_zero->Am,set_cons_succ->Aq,getElem_cons_succ->Ap
open Go.Lib renaming hid->Aa
open UInt64 renaming toNat_inj->DL
open Go.World renaming cell?_of_block->Bl
open Array renaming replicate->zO
namespace Go.Proofs.YtjcppneoncpdbaaGreatDoor
open Go.RowKit
theorem hO8q(w:World)(o:Obj){r:Nat}(h:r<w.heap.size):(w.alloc o).heap[r]?=w.heap[r]?:=by
 show (w.heap.push o)[r]? =_
 rw [Array.getElem?_push,if_neg (by omega)]
theorem Afi{w:World}{x d p L:Nat}{s:St}{F:Nat->Prop}(h:Ix w x d p L s F){jb:Nat}{stamp:UInt64}{vs vd:Value}{en:Int}(hj:Jj w jb x d p stamp vs vd false en F)(key:ByteArray)(hk:key.size<=1000)(v:UInt64):
 Calls Tryz.prog 96 #[.pointer (some ⟨jb,0,none⟩),.string key,.int .u64 (v.toNat:Int)] w fun e w'=>e= .returned (.int .i64 (Jg s key.data.toList v).2)/\∃F',Ix w' x d p L (Jg s key.data.toList v).1 F'/\AB F F' w w':=by
 have j2:=hj.box.cell 2;unfold BU at j2;simp only [Ad,Af]at j2;by_cases hv:v=0
 ·have HC:=Aa (Afh h key hk);have HP:Hid (Jg s key.data.toList v=((Nh s key.data.toList).1,(Nh s key.data.toList).2.2)):=Aa (by unfold Jg;rw [if_pos hv]);subst hv;rw [show((0:UInt64).toNat:Int)=0 from rfl];clear h hj;go_enter Tryz.func96,Tryz.ntmps96
  go_wp2_with fail
  refine HC.out.mono ?_;rintro e w1⟨rfl,F1,hx1,hm1⟩;have HX:=Aa hx1;have HM:=Aa hm1;clear HC hx1 hm1
  go_wp2_with fail
  go_ret;exact⟨by rw [HP.out];rfl,F1,by rw [HP.out];exact HX.out,HM.out⟩
 ·have HC:=Aa (KZ h key hk v);have HP:Hid (Jg s key.data.toList v=GX s key.data.toList v):=Aa (by unfold Jg;rw [if_neg hv]);have t1:((v.toNat:Int)==0)=false:=by rw [beq_eq_false_iff_ne];intro e;exact hv (DL.1 (by simp;omega))
  have t2:(v.toNat==0)=false:=by rw [beq_eq_false_iff_ne];intro e;exact hv (DL.1 (by simp;omega))
  clear h hj hv;unfold Jw at HC;go_enter Tryz.func96,Tryz.ntmps96
  go_wp2_with fail
  refine HC.out.mono ?_;rintro e w1⟨rfl,F1,hx1,hm1⟩;have HX:=Aa hx1;have HM:=Aa hm1;clear HC hx1 hm1
  go_wp2_with fail
  go_ret;exact⟨by rw [HP.out];rfl,F1,by rw [HP.out];exact HX.out,HM.out⟩
def MF(l:List Wr):Bool:=decide (l.length<=16)&&Va l&&l.all Dk
theorem yE{l:List Wr}(h:16<l.length):MF l=false:=by
 unfold MF;rw [decide_eq_false (by omega)];rfl
theorem yF{l:List Wr}{k:Nat}(hk:k<l.length)(h:Dk l[k]=false):MF l=false:=by
 unfold MF;rw [Bool.and_eq_false_iff];exact .inr (by rw [List.all_eq_false];exact⟨_,CU hk,by rw [h];decide⟩)
theorem yG{l:List Wr}{m:Nat}(hm:m+1<l.length)(h:Op.bytesLess (l[m]'(by omega)).key.toList l[m+1].key.toList=false):MF l=false:=by
 unfold MF;rw [Abr hm h,Bool.and_false];rfl
theorem aV{l:List Wr}(h:l.length<=16)(h1:∀j(hj:j<l.length),Dk l[j]=true)(h2:Yw l l.length):MF l=true:=by
 unfold MF;rw [decide_eq_true h,(Vb l).1 h2,Bool.true_and,Bool.true_and,List.all_eq_true];intro x hx;obtain⟨j,hj,rfl⟩:=List.getElem_of_mem hx;exact h1 j hj
theorem Afj{w:World}{G:Nat->Prop}{v:Value}{l:List Wr}(h:H9 w G v l)(hl:l.length<=100000)(hsz:∀x∈l,x.key.size<=4294967296/\x.text.size<=4294967296):Calls Tryz.prog 45 #[v] w fun e w'=>e= .returned (.bool (MF l))/\Below w.heap.size w w':=by
 obtain⟨A0,c,rfl⟩:=h.slice;have HS:=Aa h;have wR:=Aa hsz;clear h hsz;by_cases h16:16<l.length
 ·have t1:decide ((16:Int)<(l.length:Int))=true:=decide_eq_true (by omega);have HV:Hid (MF l=false):=Aa (yE h16);clear h16;go_enter Tryz.func45,Tryz.ntmps45
  go_wp2_with fail
  go_ret;exact⟨by rw [HV.out];rfl,Below.refl _ _⟩
 have t1:decide ((16:Int)<(l.length:Int))=false:=decide_eq_false (by omega);go_enter Tryz.func45,Tryz.ntmps45
 go_wp2_with fail
 go_loopw [10](fun i wr=>∃k:Nat,k<=l.length/\i= .int .i64 (k:Nat)/\(∀j(hj:j<l.length),j<k->Dk l[j]=true)/\Yw l k/\Below w.heap.size w wr)(fun i _=>l.length- (intOf i).toNat)
 case atStart=>exact⟨0,Nat.zero_le _,rfl,fun j _ h=>absurd h (Nat.not_lt_zero _),fun j _ h=>absurd h (by omega),Below.refl _ _⟩
 case round=>
  obtain⟨k,hk,rfl,YS,hup,hb⟩:=hrel;have HB:=Aa hb;have HRi:=Aa YS;have HUp:=Aa hup;clear YS hup hb;by_cases hlt:k<l.length
  ·obtain⟨b2,off,c2,hv2,_,hbw,_,q0,q1,q2⟩:=(HS.out.below HB.out).at k hlt;simp only [Value.slice.injEq]at hv2;obtain⟨rfl, -,rfl⟩:=hv2;have hx1:(k:Int)<(l.length:Int):=by omega
   have hx2:decide ((k:Int)<(l.length:Int))=true:=decide_eq_true hx1;have hx5:decide (k<l.length)=true:=decide_eq_true hlt;have hwk:IntKind.i64.wrap ((k:Int)+1)=(k:Int)+1:=IntWalk.i64_in _ (by omega);obtain⟨y,hy⟩:∃y,y=l[k]:=⟨_,rfl⟩;have Al1:=wR.out y (hy▸CU hlt);have HY:=Aa hy;rw [<-hy]at q0 q1 q2;have HR:=Aa (fun W=>OC y W Al1.1 Al1.2);unfold NV at HR;obtain⟨W2,hW2⟩:∃W2,W2=wr.alloc (.cells #[.string y.key,.string y.text,.bool y.gone] 87):=⟨_,rfl⟩;have hbt:Below wr.heap.size wr W2:=hW2▸(Below.refl _ _).alloc (Nat.le_refl _) _;have B2:BI W2 wr.heap.size 87 [.string y.key,.string y.text,.bool y.gone]:=hW2▸heap_alloc_new _ _;have z0:=B2.cell 0;have z1:=B2.cell 1;have z2:=B2.cell 2;simp only [Ad,Af]at z0 z1 z2;have HBt:=Aa (HB.out.trans (hbt.mono HB.out.size));have HZ:Hid (∀W,Below W2.heap.size W2 W->W.cell? ⟨wr.heap.size,0,none⟩=some (.string y.key)/\W.cell? ⟨wr.heap.size,1,none⟩=some (.string y.text)/\W.cell? ⟨wr.heap.size,2,none⟩=some (.bool y.gone)):=Aa (fun W k=>⟨(B2.below k B2.lt).cell 0,(B2.below k B2.lt).cell 1,(B2.below k B2.lt).cell 2⟩);have HW2:=Aa hW2;clear hW2 B2 hbt hy;cases hr:Dk y with
   | false=>
     rw [hr]at HR;have HV:Hid (MF l=false):=Aa (yF hlt (by rw [<-HY.out];exact hr));clear hr
     go_wp2_with fail
     rw [<-HW2.out];refine wp_region_held_drew (S:=(fun w'=>w'.cell? ⟨wr.heap.size,0,none⟩=some (.string y.key)/\w'.cell? ⟨wr.heap.size,1,none⟩=some (.string y.text)/\w'.cell? ⟨wr.heap.size,2,none⟩=some (.bool y.gone))) (by kernel_rfl) ⟨z0,z1,z2⟩ (fun hHeld=> ?_);refine FB 0 (.agg #[.string y.key,.string y.text,.bool y.gone]) rfl (by kernel_rfl) (fun _ _ _ h=>h) (by rfl) (fun w hSw=>by obtain⟨s0,s1,s2⟩:=hSw;go_simp) hHeld ?_
     try simp only [Act.put,Au,Aj,Ah,Am,Aq]
     refine wpAnyH_ready (rs:=[1]) (by kernel_rfl) (by simp) ?_;refine AllReadyH.cons rfl (fun K hK=> ?_) AllReadyH.nil;go_simp;go_at_call 90;refine(HR.out _).mono ?_;rintro e w3⟨rfl,hb3⟩;have hb4:Below W2.heap.size W2 w3:=(((Dr.drew _).below _).trans hb3);refine hK.out _ _ (HZ.out _ hb4) (fun hHeld=> ?_);clear hK K
     try simp only [Act.put,Au,Ap,Aj,Ah,Am,Aq]
     refine FB 2 (.bool true) rfl (by kernel_rfl) (fun _ _ _ h=>h) (by rfl) (fun w hSw=>by clear hSw;go_simp) hHeld ?_;refine FB 3 (.bool true) rfl (by kernel_rfl) (fun _ _ _ h=>h) (by rfl) (fun w hSw=>by clear hSw;go_simp) hHeld ?_;refine wpAnyH_take (i:=4) (v:=undef) rfl (by kernel_rfl) (by kernel_rfl) (by kernel_rfl) (fun _ _ _ h=>h) (Or.inr ⟨by rfl,rfl⟩) (by assumption) ?_
     try simp only [Act.put,Au,Ap,Aj,Ah,Am,Aq]
     refine wpAnyH_take (i:=5) (v:=undef) rfl (by kernel_rfl) (by kernel_rfl) (by kernel_rfl) (fun _ _ _ h=>h) (Or.inr ⟨by rfl,rfl⟩) (by assumption) ?_;refine wpAnyH_take (i:=6) (v:=undef) rfl (by kernel_rfl) (by kernel_rfl) (by kernel_rfl) (fun _ _ _ h=>h) (Or.inr ⟨by rfl,rfl⟩) (by assumption) ?_;refine wpAnyH_take (i:=7) (v:=undef) rfl (by kernel_rfl) (by kernel_rfl) (by kernel_rfl) (fun _ _ _ h=>h) (Or.inr ⟨by rfl,rfl⟩) (by assumption) ?_
     try simp only [Act.put,Au,Ap,Aj,Ah,Am,Aq]
     refine wpAnyH_take (i:=8) (v:=undef) rfl (by kernel_rfl) (by kernel_rfl) (by kernel_rfl) (fun _ _ _ h=>h) (Or.inr ⟨by rfl,rfl⟩) (by assumption) ?_;refine wpAnyH_take (i:=9) (v:=undef) rfl (by kernel_rfl) (by kernel_rfl) (by kernel_rfl) (fun _ _ _ h=>h) (Or.inr ⟨by rfl,rfl⟩) (by assumption) ?_;refine wpAnyH_take (i:=10) (v:=undef) rfl (by kernel_rfl) (by kernel_rfl) (by kernel_rfl) (fun _ _ _ h=>h) (Or.inr ⟨by rfl,rfl⟩) (by assumption) ?_
     try simp only [Act.put,Au,Ap,Aj,Ah,Am,Aq]
     refine wpAnyH_take (i:=11) (v:=undef) rfl (by kernel_rfl) (by kernel_rfl) (by kernel_rfl) (fun _ _ _ h=>h) (Or.inr ⟨by rfl,rfl⟩) (by assumption) ?_;refine wpAnyH_take (i:=12) (v:=undef) rfl (by kernel_rfl) (by kernel_rfl) (by kernel_rfl) (fun _ _ _ h=>h) (Or.inr ⟨by rfl,rfl⟩) (by assumption) ?_;refine wpAnyH_take (i:=13) (v:=undef) rfl (by kernel_rfl) (by kernel_rfl) (by kernel_rfl) (fun _ _ _ h=>h) (Or.inr ⟨by rfl,rfl⟩) (by assumption) ?_
     try simp only [Act.put,Au,Ap,Aj,Ah,Am,Aq]
     refine wpAnyH_take (i:=14) (v:=undef) rfl (by kernel_rfl) (by kernel_rfl) (by kernel_rfl) (fun _ _ _ h=>h) (Or.inr ⟨by rfl,rfl⟩) (by assumption) ?_;refine wpAnyH_take (i:=15) (v:=undef) rfl (by kernel_rfl) (by kernel_rfl) (by kernel_rfl) (fun _ _ _ h=>h) (Or.inr ⟨by rfl,rfl⟩) (by assumption) ?_;refine wpAnyH_take (i:=16) (v:=undef) rfl (by kernel_rfl) (by kernel_rfl) (by kernel_rfl) (fun _ _ _ h=>h) (Or.inr ⟨by rfl,rfl⟩) (by assumption) ?_
     try simp only [Act.put,Au,Ap,Aj,Ah,Am,Aq]
     refine FB 17 (.bool true) rfl (by kernel_rfl) (fun _ _ _ h=>h) (by rfl) (fun w hSw=>by clear hSw;go_simp) hHeld ?_
     try simp only [Act.put,Au,Ap,Aj,Ah,Am,Aq]
     refine wpAnyH_done (by kernel_rfl) ?_ _;have HB4:=Aa (HBt.out.trans (hb4.mono HBt.out.size));clear hb3 hb4 z0 z1 z2 hHeld
     go_wp2_with fail
     go_ret;exact⟨by rw [HV.out];rfl,HB4.out⟩
   | true=>
     rw [hr]at HR;have HRn:Hid (∀j(hj:j<l.length),j<k+1->Dk l[j]=true):=Aa (fun j hj hjk=>by
      by_cases e:j=k
      ·subst e;rw [<-HY.out];exact hr
      ·exact HRi.out j hj (by omega))
     clear hr;by_cases hk0:k=0
     ·have HUn:Hid (Yw l (k+1)):=Aa (fun j hj hjk=>absurd hjk (by omega));have hx6:decide ((0:Int)<(k:Int))=false:=decide_eq_false (by omega);have hx7:decide (0<k)=false:=decide_eq_false (by omega);clear hk0
      go_wp2_with fail
      rw [<-HW2.out];refine wp_region_held_drew (S:=(fun w'=>w'.cell? ⟨wr.heap.size,0,none⟩=some (.string y.key)/\w'.cell? ⟨wr.heap.size,1,none⟩=some (.string y.text)/\w'.cell? ⟨wr.heap.size,2,none⟩=some (.bool y.gone))) (by kernel_rfl) ⟨z0,z1,z2⟩ (fun hHeld=> ?_);refine FB 0 (.agg #[.string y.key,.string y.text,.bool y.gone]) rfl (by kernel_rfl) (fun _ _ _ h=>h) (by rfl) (fun w hSw=>by obtain⟨s0,s1,s2⟩:=hSw;go_simp) hHeld ?_
      try simp only [Act.put,Au,Aj,Ah,Am,Aq]
      refine wpAnyH_ready (rs:=[1]) (by kernel_rfl) (by simp) ?_;refine AllReadyH.cons rfl (fun K hK=> ?_) AllReadyH.nil;go_simp;go_at_call 90;refine(HR.out _).mono ?_;rintro e w3⟨rfl,hb3⟩;have hb4:Below W2.heap.size W2 w3:=(((Dr.drew _).below _).trans hb3);refine hK.out _ _ (HZ.out _ hb4) (fun hHeld=> ?_);clear hK K
      try simp only [Act.put,Au,Ap,Aj,Ah,Am,Aq]
      refine FB 2 (.bool false) rfl (by kernel_rfl) (fun _ _ _ h=>h) (by rfl) (fun w hSw=>by clear hSw;go_simp) hHeld ?_;refine FB 3 (.bool false) rfl (by kernel_rfl) (fun _ _ _ h=>h) (by rfl) (fun w hSw=>by clear hSw;go_simp) hHeld ?_;refine FB 4 (.int .i64 (k:Int)) rfl (by kernel_rfl) (fun _ _ _ h=>h) (by rfl) (fun w hSw=>by clear hSw;go_simp) hHeld ?_
      try simp only [Act.put,Au,Ap,Aj,Ah,Am,Aq]
      refine FB 5 (.bool false) rfl (by kernel_rfl) (fun _ _ _ h=>h) (by rfl) (fun w hSw=>by clear hSw;go_simp) hHeld ?_;refine FB 6 (.bool false) rfl (by kernel_rfl) (fun _ _ _ h=>h) (by rfl) (fun w hSw=>by clear hSw;go_simp) hHeld ?_;refine wpAnyH_take (i:=7) (v:=undef) rfl (by kernel_rfl) (by kernel_rfl) (by kernel_rfl) (fun _ _ _ h=>h) (Or.inr ⟨by rfl,rfl⟩) (by assumption) ?_
      try simp only [Act.put,Au,Ap,Aj,Ah,Am,Aq]
      refine wpAnyH_take (i:=8) (v:=undef) rfl (by kernel_rfl) (by kernel_rfl) (by kernel_rfl) (fun _ _ _ h=>h) (Or.inr ⟨by rfl,rfl⟩) (by assumption) ?_;refine wpAnyH_take (i:=9) (v:=undef) rfl (by kernel_rfl) (by kernel_rfl) (by kernel_rfl) (fun _ _ _ h=>h) (Or.inr ⟨by rfl,rfl⟩) (by assumption) ?_;refine wpAnyH_take (i:=10) (v:=undef) rfl (by kernel_rfl) (by kernel_rfl) (by kernel_rfl) (fun _ _ _ h=>h) (Or.inr ⟨by rfl,rfl⟩) (by assumption) ?_
      try simp only [Act.put,Au,Ap,Aj,Ah,Am,Aq]
      refine wpAnyH_take (i:=11) (v:=undef) rfl (by kernel_rfl) (by kernel_rfl) (by kernel_rfl) (fun _ _ _ h=>h) (Or.inr ⟨by rfl,rfl⟩) (by assumption) ?_;refine wpAnyH_take (i:=12) (v:=undef) rfl (by kernel_rfl) (by kernel_rfl) (by kernel_rfl) (fun _ _ _ h=>h) (Or.inr ⟨by rfl,rfl⟩) (by assumption) ?_;refine wpAnyH_take (i:=13) (v:=undef) rfl (by kernel_rfl) (by kernel_rfl) (by kernel_rfl) (fun _ _ _ h=>h) (Or.inr ⟨by rfl,rfl⟩) (by assumption) ?_
      try simp only [Act.put,Au,Ap,Aj,Ah,Am,Aq]
      refine wpAnyH_take (i:=14) (v:=undef) rfl (by kernel_rfl) (by kernel_rfl) (by kernel_rfl) (fun _ _ _ h=>h) (Or.inr ⟨by rfl,rfl⟩) (by assumption) ?_;refine wpAnyH_take (i:=15) (v:=undef) rfl (by kernel_rfl) (by kernel_rfl) (by kernel_rfl) (fun _ _ _ h=>h) (Or.inr ⟨by rfl,rfl⟩) (by assumption) ?_;refine FB 16 (.bool false) rfl (by kernel_rfl) (fun _ _ _ h=>h) (by rfl) (fun w hSw=>by clear hSw;go_simp) hHeld ?_
      try simp only [Act.put,Au,Ap,Aj,Ah,Am,Aq]
      refine FB 17 (.bool false) rfl (by kernel_rfl) (fun _ _ _ h=>h) (by rfl) (fun w hSw=>by clear hSw;go_simp) hHeld ?_
      try simp only [Act.put,Au,Ap,Aj,Ah,Am,Aq]
      refine wpAnyH_done (by kernel_rfl) ?_ _;have HB4:=Aa (HBt.out.trans (hb4.mono HBt.out.size));clear hb3 hb4 z0 z1 z2 hHeld
      go_wp2_with fail
      go_roundw
      case rel=>exact⟨k+1,by omega,by go_num,HRn.out,HUn.out,HB4.out⟩
      case measure=>simp [intOf];omega
     ·obtain⟨m,zV⟩:∃m,k=m+1:=⟨k-1,by omega⟩;have HKm:=Aa zV;have hml:m<l.length:=by omega
      obtain⟨b3,Ajy,c3,hv3,_,hbw3,_,p0,_,_⟩:=(HS.out.below HB.out).at m hml;simp only [Value.slice.injEq,Option.some.injEq,Addr.mk.injEq,true_and,and_true]at hv3;obtain⟨⟨rfl,rfl⟩,rfl⟩:=hv3;obtain⟨z,hz⟩:∃z,z=l[m]'hml:=⟨_,rfl⟩;rw [<-hz]at p0;have hpw:W2.cell? ⟨b2,off+m*3,none⟩=some (.string z.key):=by rw [HW2.out];exact(Bl (w:=wr) (hO8q _ _ hbw)).trans p0
      have HPv:Hid (∀W,Below W2.heap.size W2 W->W.cell? ⟨b2,off+m*3,none⟩=some (.string z.key)):=Aa (fun W k=>(Bl (w:=W2) (k.block _ (World.block_lt_of_cell? W2 _ hpw))).trans hpw);have qx:Hid (Op.bytesLess z.key.toList y.key.toList=true->Yw l (k+1)):=Aa (fun h j hj hjk=>by
       have Aie:=HKm.out;subst Aie;by_cases e:j=m
       ·subst e;rw [<-hz,<-HY.out];exact h
       ·exact HUp.out j hj (by omega))
      have HLn:Hid (Op.bytesLess z.key.toList y.key.toList=false->MF l=false):=Aa (fun h=>by
       have Aie:=HKm.out;subst Aie;exact yG hlt (by rw [<-hz,<-HY.out];exact h))
      have hx6:decide ((0:Int)<(k:Int))=true:=decide_eq_true (by omega);have hx7:decide (0<k)=true:=decide_eq_true (by omega);have hwm:IntKind.i64.wrap ((k:Int) -1)=(m:Int):=(IntWalk.i64_in _ (by omega)).trans (by omega);have Aog:(m:Int)<(l.length:Int):=by omega
      have Apm:decide ((m:Int)<(l.length:Int))=true:=decide_eq_true Aog;have Apn:decide (m<l.length)=true:=decide_eq_true (by omega);clear zV hk0 hz;cases hls:Op.bytesLess z.key.toList y.key.toList with
      | true=>
        have HUn:=Aa (qx.out hls)
        go_wp2_with fail
        rw [<-HW2.out];refine wp_region_held_drew (S:=(fun w'=>w'.cell? ⟨wr.heap.size,0,none⟩=some (.string y.key)/\w'.cell? ⟨wr.heap.size,1,none⟩=some (.string y.text)/\w'.cell? ⟨wr.heap.size,2,none⟩=some (.bool y.gone)/\w'.cell? ⟨b2,off+m*3,none⟩=some (.string z.key))) (by kernel_rfl) ⟨z0,z1,z2,hpw⟩ (fun hHeld=> ?_);refine FB 0 (.agg #[.string y.key,.string y.text,.bool y.gone]) rfl (by kernel_rfl) (fun _ _ _ h=>h) (by rfl) (fun w hSw=>by obtain⟨s0,s1,s2,s3⟩:=hSw;go_simp) hHeld ?_
        try simp only [Act.put,Au,Aj,Ah,Am,Aq]
        refine wpAnyH_ready (rs:=[1]) (by kernel_rfl) (by simp) ?_;refine AllReadyH.cons rfl (fun K hK=> ?_) AllReadyH.nil;go_simp;go_at_call 90;refine(HR.out _).mono ?_;rintro e w3⟨rfl,hb3⟩;have hb4:Below W2.heap.size W2 w3:=(((Dr.drew _).below _).trans hb3);refine hK.out _ _ (⟨(HZ.out _ hb4).1,(HZ.out _ hb4).2.1,(HZ.out _ hb4).2.2,HPv.out _ hb4⟩) (fun hHeld=> ?_);clear hK K
        try simp only [Act.put,Au,Ap,Aj,Ah,Am,Aq]
        refine FB 2 (.bool false) rfl (by kernel_rfl) (fun _ _ _ h=>h) (by rfl) (fun w hSw=>by clear hSw;go_simp) hHeld ?_;refine FB 3 (.bool false) rfl (by kernel_rfl) (fun _ _ _ h=>h) (by rfl) (fun w hSw=>by clear hSw;go_simp) hHeld ?_;refine FB 4 (.int .i64 (k:Int)) rfl (by kernel_rfl) (fun _ _ _ h=>h) (by rfl) (fun w hSw=>by clear hSw;go_simp) hHeld ?_
        try simp only [Act.put,Au,Ap,Aj,Ah,Am,Aq]
        refine FB 5 (.bool true) rfl (by kernel_rfl) (fun _ _ _ h=>h) (by rfl) (fun w hSw=>by clear hSw;go_simp) hHeld ?_;refine FB 6 (.bool true) rfl (by kernel_rfl) (fun _ _ _ h=>h) (by rfl) (fun w hSw=>by clear hSw;go_simp) hHeld ?_;refine FB 7 (.slice (some ⟨b2,off,none⟩) l.length c) rfl (by kernel_rfl) (fun _ _ _ h=>h) (by rfl) (fun w hSw=>by clear hSw;go_simp) hHeld ?_
        try simp only [Act.put,Au,Ap,Aj,Ah,Am,Aq]
        refine FB 8 (.int .i64 (k:Int)) rfl (by kernel_rfl) (fun _ _ _ h=>h) (by rfl) (fun w hSw=>by clear hSw;go_simp) hHeld ?_;refine FB 9 (.int .i64 (m:Int)) rfl (by kernel_rfl) (fun _ _ _ h=>h) (by rfl) (fun w hSw=>by clear hSw;go_simp) hHeld ?_;refine FB 10 (.pointer (some ⟨b2,off+m*3,none⟩)) rfl (by kernel_rfl) (fun _ _ _ h=>h) (by rfl) (fun w hSw=>by clear hSw;go_simp) hHeld ?_
        try simp only [Act.put,Au,Ap,Aj,Ah,Am,Aq]
        refine FB 11 (.pointer (some ⟨b2,off+m*3,none⟩)) rfl (by kernel_rfl) (fun _ _ _ h=>h) (by rfl) (fun w hSw=>by clear hSw;go_simp) hHeld ?_;refine FB 12 (.string z.key) rfl (by kernel_rfl) (fun _ _ _ h=>h) (by rfl) (fun w hSw=>by obtain⟨s0,s1,s2,s3⟩:=hSw;go_simp) hHeld ?_;refine FB 13 (.pointer (some ⟨wr.heap.size,0,none⟩)) rfl (by kernel_rfl) (fun _ _ _ h=>h) (by rfl) (fun w hSw=>by clear hSw;go_simp) hHeld ?_
        try simp only [Act.put,Au,Ap,Aj,Ah,Am,Aq]
        refine FB 14 (.string y.key) rfl (by kernel_rfl) (fun _ _ _ h=>h) (by rfl) (fun w hSw=>by obtain⟨s0,s1,s2,s3⟩:=hSw;go_simp) hHeld ?_;refine FB 15 (.bool false) rfl (by kernel_rfl) (fun _ _ _ h=>h) (by rfl) (fun w hSw=>by clear hSw;go_simp) hHeld ?_;refine FB 16 (.bool false) rfl (by kernel_rfl) (fun _ _ _ h=>h) (by rfl) (fun w hSw=>by clear hSw;go_simp) hHeld ?_
        try simp only [Act.put,Au,Ap,Aj,Ah,Am,Aq]
        refine FB 17 (.bool false) rfl (by kernel_rfl) (fun _ _ _ h=>h) (by rfl) (fun w hSw=>by clear hSw;go_simp) hHeld ?_
        try simp only [Act.put,Au,Ap,Aj,Ah,Am,Aq]
        refine wpAnyH_done (by kernel_rfl) ?_ _;have HB4:=Aa (HBt.out.trans (hb4.mono HBt.out.size));clear hb3 hb4 z0 z1 z2 hHeld
        go_wp2_with fail
        go_roundw
        case rel=>exact⟨k+1,by omega,by go_num,HRn.out,HUn.out,HB4.out⟩
        case measure=>simp [intOf];omega
      | false=>
        have HV:=Aa (HLn.out hls)
        go_wp2_with fail
        rw [<-HW2.out];refine wp_region_held_drew (S:=(fun w'=>w'.cell? ⟨wr.heap.size,0,none⟩=some (.string y.key)/\w'.cell? ⟨wr.heap.size,1,none⟩=some (.string y.text)/\w'.cell? ⟨wr.heap.size,2,none⟩=some (.bool y.gone)/\w'.cell? ⟨b2,off+m*3,none⟩=some (.string z.key))) (by kernel_rfl) ⟨z0,z1,z2,hpw⟩ (fun hHeld=> ?_);refine FB 0 (.agg #[.string y.key,.string y.text,.bool y.gone]) rfl (by kernel_rfl) (fun _ _ _ h=>h) (by rfl) (fun w hSw=>by obtain⟨s0,s1,s2,s3⟩:=hSw;go_simp) hHeld ?_
        try simp only [Act.put,Au,Aj,Ah,Am,Aq]
        refine wpAnyH_ready (rs:=[1]) (by kernel_rfl) (by simp) ?_;refine AllReadyH.cons rfl (fun K hK=> ?_) AllReadyH.nil;go_simp;go_at_call 90;refine(HR.out _).mono ?_;rintro e w3⟨rfl,hb3⟩;have hb4:Below W2.heap.size W2 w3:=(((Dr.drew _).below _).trans hb3);refine hK.out _ _ (⟨(HZ.out _ hb4).1,(HZ.out _ hb4).2.1,(HZ.out _ hb4).2.2,HPv.out _ hb4⟩) (fun hHeld=> ?_);clear hK K
        try simp only [Act.put,Au,Ap,Aj,Ah,Am,Aq]
        refine FB 2 (.bool false) rfl (by kernel_rfl) (fun _ _ _ h=>h) (by rfl) (fun w hSw=>by clear hSw;go_simp) hHeld ?_;refine FB 3 (.bool false) rfl (by kernel_rfl) (fun _ _ _ h=>h) (by rfl) (fun w hSw=>by clear hSw;go_simp) hHeld ?_;refine FB 4 (.int .i64 (k:Int)) rfl (by kernel_rfl) (fun _ _ _ h=>h) (by rfl) (fun w hSw=>by clear hSw;go_simp) hHeld ?_
        try simp only [Act.put,Au,Ap,Aj,Ah,Am,Aq]
        refine FB 5 (.bool true) rfl (by kernel_rfl) (fun _ _ _ h=>h) (by rfl) (fun w hSw=>by clear hSw;go_simp) hHeld ?_;refine FB 6 (.bool true) rfl (by kernel_rfl) (fun _ _ _ h=>h) (by rfl) (fun w hSw=>by clear hSw;go_simp) hHeld ?_;refine FB 7 (.slice (some ⟨b2,off,none⟩) l.length c) rfl (by kernel_rfl) (fun _ _ _ h=>h) (by rfl) (fun w hSw=>by clear hSw;go_simp) hHeld ?_
        try simp only [Act.put,Au,Ap,Aj,Ah,Am,Aq]
        refine FB 8 (.int .i64 (k:Int)) rfl (by kernel_rfl) (fun _ _ _ h=>h) (by rfl) (fun w hSw=>by clear hSw;go_simp) hHeld ?_;refine FB 9 (.int .i64 (m:Int)) rfl (by kernel_rfl) (fun _ _ _ h=>h) (by rfl) (fun w hSw=>by clear hSw;go_simp) hHeld ?_;refine FB 10 (.pointer (some ⟨b2,off+m*3,none⟩)) rfl (by kernel_rfl) (fun _ _ _ h=>h) (by rfl) (fun w hSw=>by clear hSw;go_simp) hHeld ?_
        try simp only [Act.put,Au,Ap,Aj,Ah,Am,Aq]
        refine FB 11 (.pointer (some ⟨b2,off+m*3,none⟩)) rfl (by kernel_rfl) (fun _ _ _ h=>h) (by rfl) (fun w hSw=>by clear hSw;go_simp) hHeld ?_;refine FB 12 (.string z.key) rfl (by kernel_rfl) (fun _ _ _ h=>h) (by rfl) (fun w hSw=>by obtain⟨s0,s1,s2,s3⟩:=hSw;go_simp) hHeld ?_;refine FB 13 (.pointer (some ⟨wr.heap.size,0,none⟩)) rfl (by kernel_rfl) (fun _ _ _ h=>h) (by rfl) (fun w hSw=>by clear hSw;go_simp) hHeld ?_
        try simp only [Act.put,Au,Ap,Aj,Ah,Am,Aq]
        refine FB 14 (.string y.key) rfl (by kernel_rfl) (fun _ _ _ h=>h) (by rfl) (fun w hSw=>by obtain⟨s0,s1,s2,s3⟩:=hSw;go_simp) hHeld ?_;refine FB 15 (.bool true) rfl (by kernel_rfl) (fun _ _ _ h=>h) (by rfl) (fun w hSw=>by clear hSw;go_simp) hHeld ?_;refine FB 16 (.bool true) rfl (by kernel_rfl) (fun _ _ _ h=>h) (by rfl) (fun w hSw=>by clear hSw;go_simp) hHeld ?_
        try simp only [Act.put,Au,Ap,Aj,Ah,Am,Aq]
        refine FB 17 (.bool true) rfl (by kernel_rfl) (fun _ _ _ h=>h) (by rfl) (fun w hSw=>by clear hSw;go_simp) hHeld ?_
        try simp only [Act.put,Au,Ap,Aj,Ah,Am,Aq]
        refine wpAnyH_done (by kernel_rfl) ?_ _;have HB4:=Aa (HBt.out.trans (hb4.mono HBt.out.size));clear hb3 hb4 z0 z1 z2 hHeld
        go_wp2_with fail
        go_ret;exact⟨by rw [HV.out];rfl,HB4.out⟩
  ·have hkn:k=l.length:=by omega
   have hx1:decide ((k:Int)<(l.length:Int))=false:=decide_eq_false (by omega);have hx5:decide (k<l.length)=false:=decide_eq_false hlt;have HV:Hid (MF l=true):=Aa (aV (by omega) (fun j hj=>HRi.out j hj (by omega)) (fun j hj hjk=>HUp.out j hj (by omega)));clear hkn
   go_wp2_with fail
   go_ret;exact⟨by rw [HV.out];rfl,HB.out⟩
section
variable{len:Mode}{w w':World}{x d p L:Nat}{s:St}{F:Nat->Prop}
def Y9(slot stamp:UInt64)(l:List Wr):Bool:=decide (slot.toNat<stamp.toNat)&&decide (stamp.toNat<=60000)&&MF l
theorem fU(h:EL len w d p L s F){G:Nat->Prop}{v:Value}{l:List Wr}(hv:H9 w G v l)(hl:l.length<=100000)(hsz:∀x∈l,x.key.size<=4294967296/\x.text.size<=4294967296)(stamp:UInt64):
 Calls Tryz.prog 15 #[.pointer (some ⟨d,0,none⟩),.pointer (some ⟨p,0,none⟩),.pointer (some ⟨x,0,none⟩),.int .u64 (stamp.toNat:Int),v] w fun e w'=>Below w.heap.size w w'/\
  (Y9 (s.ws 8) stamp l=true->∃jb vs,e= .returned (.tuple #[.pointer (some ⟨jb,0,none⟩),.int .i64 0])/\
   w.heap.size<=jb/\BI w' jb 113 (BU x d p stamp vs (.slice none 0 0) false 0)/\(∀G:Nat->Prop,(∀b,w.heap.size<=b->b<jb->¬G b)->H9 w' G vs l))/\
  (Y9 (s.ws 8) stamp l=false->e= .returned (.tuple #[.pointer none,.int .i64 2])):=by
 have hL:=h.pos.1;have t0:(((L*64:Nat):Int)==0)=false:=by rw [beq_eq_false_iff_ne];omega
 have HS:=Aa h.size;obtain⟨sz,hsz'⟩:∃sz,L*64=sz:=⟨_,rfl⟩;rw [hsz']at t0 HS;have hL2:=h.pos.2.2.1.fits;have hL3:=h.pos.2.2.1.NR;have HL:=Aa (h.load 8 (by omega));rw [show((8*8:Nat):Int)=64 from rfl]at HL;obtain⟨A0,c0,rfl⟩:=hv.slice;have HF:=Aa (Afj hv hl hsz);have HV:=Aa hv;have HLl:=Aa hl;clear h hv hsz hsz' hL hL2 hL3;by_cases h1:stamp.toNat<=(s.ws 8).toNat
 ·have t1:decide ((stamp.toNat:Int)<=((s.ws 8).toNat:Int))=true:=decide_eq_true (by omega);have t2:decide (stamp.toNat<=(s.ws 8).toNat)=true:=decide_eq_true h1;have HN:Hid (Y9 (s.ws 8) stamp l=false):=Aa (by unfold Y9;rw [decide_eq_false (by omega)];rfl);clear h1;go_enter Tryz.func15,Tryz.ntmps15
  go_wp2_with fail
  refine HS.out.mono ?_;rintro e w1⟨rfl,rfl⟩
  go_wp2_with fail
  refine HL.out.mono ?_;rintro e w1⟨rfl,rfl⟩
  go_wp2_with fail
  go_ret2;exact⟨Below.refl _ _,fun h=>absurd h (by rw [HN.out];decide),fun _=>rfl⟩
 have t1:decide ((stamp.toNat:Int)<=((s.ws 8).toNat:Int))=false:=decide_eq_false (by omega);have t2:decide (stamp.toNat<=(s.ws 8).toNat)=false:=decide_eq_false (by omega);by_cases h2:60000<stamp.toNat
 ·have t3:decide ((60000:Int)<(stamp.toNat:Int))=true:=decide_eq_true (by omega);have t4:decide (60000<stamp.toNat)=true:=decide_eq_true h2;have HN:Hid (Y9 (s.ws 8) stamp l=false):=Aa (by unfold Y9;rw [show decide (stamp.toNat<=60000)=false from decide_eq_false (by omega),Bool.and_false];rfl);clear h1 h2;go_enter Tryz.func15,Tryz.ntmps15
  go_wp2_with fail
  refine HS.out.mono ?_;rintro e w1⟨rfl,rfl⟩
  go_wp2_with fail
  refine HL.out.mono ?_;rintro e w1⟨rfl,rfl⟩
  go_wp2_with fail
  go_ret2;exact⟨Below.refl _ _,fun h=>absurd h (by rw [HN.out];decide),fun _=>rfl⟩
 have t3:decide ((60000:Int)<(stamp.toNat:Int))=false:=decide_eq_false (by omega);have t4:decide (60000<stamp.toNat)=false:=decide_eq_false (by omega);have hnb:Y9 (s.ws 8) stamp l=MF l:=by unfold Y9;rw [decide_eq_true (by omega),decide_eq_true (by omega)];rfl
 cases hf:MF l with
 | false=>
   rw [hf]at HF hnb;have HN:=Aa hnb;clear h1 h2 hnb hf;go_enter Tryz.func15,Tryz.ntmps15
   go_wp2_with fail
   refine HS.out.mono ?_;rintro e w1⟨rfl,rfl⟩
   go_wp2_with fail
   refine HL.out.mono ?_;rintro e w1⟨rfl,rfl⟩
   go_wp2_with fail
   refine HF.out.mono ?_;rintro e w1⟨rfl,hb1⟩;have HB1:=Aa hb1;clear hb1 HS HL HF
   go_wp2_with fail
   go_ret2;exact⟨HB1.out,fun h=>absurd h (by rw [HN.out];decide),fun _=>rfl⟩
 | true=>
   rw [hf]at HF hnb;have HN:=Aa hnb;clear h1 h2 hnb hf;go_enter Tryz.func15,Tryz.ntmps15
   go_wp2_with fail
   refine HS.out.mono ?_;rintro e w1⟨rfl,rfl⟩
   go_wp2_with fail
   refine HL.out.mono ?_;rintro e w1⟨rfl,rfl⟩
   go_wp2_with fail
   refine HF.out.mono ?_;rintro e w1⟨rfl,hb1⟩;have HC:=Aa (OD (HV.out.below hb1) HLl.out);have HB1:=Aa hb1;clear hb1 HS HL HF
   go_wp2_with fail
   refine HC.out.mono ?_;rintro e w2⟨u,rfl,hO,hB⟩;obtain⟨A5,c5,hu5,_,_⟩:=Ea hO;subst hu5;have HO:=Aa hO;have HB:=Aa (HB1.out.trans (hB.mono HB1.out.size));clear hO hB HC
   go_wp2_with fail
   go_ret2;obtain⟨W,hW⟩:∃W,W=w2.alloc (.cells (BU x d p stamp (.slice A5 l.length c5) (.slice none 0 0) false 0).toArray 113):=⟨_,rfl⟩;have hbW:Below w2.heap.size w2 W:=hW▸(Below.refl _ _).alloc (Nat.le_refl _) _;have hJ:BI W w2.heap.size 113 (BU x d p stamp (.slice A5 l.length c5) (.slice none 0 0) false 0):=hW▸heap_alloc_new _ _;refine⟨by rw [hW]at hbW;exact HB.out.trans (hbW.mono HB.out.size),fun _=>⟨w2.heap.size,.slice A5 l.length c5,rfl,HB.out.size,by rw [hW]at hJ;exact hJ,fun G hG=> ?_⟩,fun h=>absurd h (by rw [HN.out];decide)⟩;have hs:H9 w2 G (.slice A5 l.length c5) l:=jI HO.out rfl (fun b hb hlt=>hG b (Nat.le_trans HB1.out.size hb) hlt);rw [hW]at hbW;exact hs.below hbW
end
section
variable{P:Program}{ops:Array Oper}{Q:Exit->Act->World->Prop}{n l0:Nat}
def VS(Q:Exit->Act->World->Prop):Exit->Act->World->Prop:=fun e a w=>e≠.outgrown/\Q e a w
theorem VS.not:¬LetsOut (VS Q):=fun⟨_,_,h,_⟩=>h rfl
theorem YA{o:Oper}{a:Act}{K K':Act->World->Prop}(hK:∀a w,K a w->K' a w){r:Result Next}(h:o.upon P a K (VS Q) r):o.uponIn (Fence.wide.inRound l0) n P a K' Q r:=by
 cases r with
 | ok x w'=>
   cases x with
   | value v=>exact hK _ _ h
   | skip=>exact hK _ _ h
   | defer d=>exact hK _ _ h
   | enter f args=>
     refine⟨fun h=>(by cases h),CallsIn.inRound l0 ((callsIn_wide.2 (show Calls P f args w' _ from h)).mono ?_)⟩;intro e w'' he;cases e with
     | returned v=>exact hK _ _ he
     | panicked c=>exact he.2
     | outgrown=>exact(VS.not he).elim
   | row row args=>exact⟨fun h=>(by cases h),fun c cs _=>let⟨v,w'',q,s⟩:=(show Rows P row args w' _ from h) c cs;⟨v,w'',hK _ _ q,stepsIn_wide.2 s⟩⟩
   | _=>exact h.elim
 | halt x w'=>
   cases x with
   | panic v=>exact h.2
   | _=>exact h.elim
theorem Jc(hd:∀o∈ops,∀c,o.op≠.defer c):∀(l:List Nat)(a:Act)(w:World),wpOps P ops (VS Q) l a w->wpOpsIn (Fence.wide.inRound l0) n P ops Q l a w
 | [],_,_,h=>h.2
 | i::rest,a,w,h=>by
   unfold wpOps at h;unfold wpOpsIn;cases ho:ops[i]? with
   | none=>rw [ho]at h;exact Jc hd rest _ _ h
   | some o=>
     rw [ho]at h;simp only at h⊢;split at h
     ·rename_i hw;rw [if_pos hw];rcases h with h| ⟨_,h⟩
      ·refine⟨fun _ _=>trivial,?_⟩;rw [show(Fence.wide.inRound l0).round=some l0 from rfl,Oper.semAt_some l0 _ _ (hd o (Array.mem_of_getElem? ho))];exact YA (Jc hd rest) h
      ·exact(VS.not h).elim
     ·rename_i hw;rw [if_neg hw];exact⟨fun _ _=>trivial,Jc hd rest _ _ h⟩
def fV(ops:Array Oper):Bool:=ops.all fun o=>match o.op with| .defer _=>false| _=>true
theorem fZ(h:fV ops=true):∀o∈ops,∀c,o.op≠.defer c:=fun o ho c e=>by
 have:=Array.all_eq_true_iff_forall_mem.1 h o ho;rw [e]at this;cases this
theorem Ux{S:World->Prop}{id:Nat}{a:Act}{w:World}(hm:P.follows .mixedOrders=true)(hd:fV ops=true)
 (h:wpAnyH P .any ops (VS Q) S ops.size (zO ops.size false) a {w with drawn:=w.drawn+1}):(Code.region id ops true).wpIn (Fence.wide.inRound l0) n P Q a w:=
 wpIn_region_draw fun t=>by
  simp only [Region.schedule,hm,Bool.true_or,if_true];exact Jc (fZ hd) _ _ _ (wpAny_sound ops.size t _ a _ (wpAny_of_held _ _ _ _ h))
theorem Ie{S:World->Prop}{id:Nat}{a:Act}{w:World}(hm:P.follows .mixedOrders=true)(hd:fV ops=true)(hS:S w.drew)
 (h:S w.drew->wpAnyH P .any ops (VS Q) S ops.size (zO ops.size false) a w.drew):(Code.region id ops true).wpIn (Fence.wide.inRound l0) n P Q a w:=
 Ux hm hd (h hS)
end
end Go.Proofs.YtjcppneoncpdbaaGreatDoor
