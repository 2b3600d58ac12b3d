import Derived.Test.YtjcppneoncpdbaaGreatDoorG20
import Derived.Test.YtjcppneoncpdbaaGreatDoorG24
import Derived.Test.YtjcppneoncpdbaaGreatDoorG25
set_option maxHeartbeats 32000000
set_option maxRecDepth 100000
open List renaming getElem?_cons_zero->Ac,getElem?_cons_succ->Ae,getElem_mem->BD,getElem_toArray->Ap,getElem_cons_zero->Ah,setIfInBounds_toArray->Ag,set_cons_zero->Aj,set_cons_succ->Am,getElem_cons_succ->Ak
open Go.Lib renaming hid->Aa
namespace Go.Proofs.YtjcppneoncpdbaaGreatDoor
open Go.RowKit
theorem Ac9{w:World}{x d p L:Nat}{s:St}{F:Nat->Prop}(h:Ix w x d p L s F){jb:Nat}{stamp:UInt64}{vs vd:Value}{en:Int}(hj:IM w jb x d p stamp vs vd false en F)(key:ByteArray)(hk:key.size<=1000)(v:UInt64):
 Calls Tryz.prog 96 #[.pointer (some ⟨jb,0,none⟩),.string key,.int .u64 (v.toNat:Int)] w fun e w'=>e= .returned (.int .i64 (Ik s key.data.toList v).2)/\∃F',Ix w' x d p L (Ik s key.data.toList v).1 F'/\Aq F F' w w':=by
 have j2:=hj.box.cell 2;unfold Bv at j2;simp only [Ac,Ae]at j2;by_cases hv:v=0
 ·have HC:=Aa (Ac8 h key hk);have HP:Hid (Ik s key.data.toList v=((LY s key.data.toList).1,(LY s key.data.toList).2.2)):=Aa (by unfold Ik;rw [if_pos hv]);subst hv;rw [show((0:UInt64).toNat:Int)=0 from rfl];clear h hj;go_enter Tryz.func96,Tryz.ntmps96
  go_wp2_with fail
  refine HC.out.mono ?_;rintro e w1⟨rfl,F1,hx1,hm1⟩;have HX:=Aa hx1;have HM:=Aa hm1;clear HC hx1 hm1
  go_wp2_with fail
  go_ret;exact⟨by rw [HP.out];rfl,F1,by rw [HP.out];exact HX.out,HM.out⟩
 ·have HC:=Aa (JR h key hk v);have HP:Hid (Ik s key.data.toList v=FZ s key.data.toList v):=Aa (by unfold Ik;rw [if_neg hv]);have t1:((v.toNat:Int)==0)=false:=by rw [beq_eq_false_iff_ne];intro e;exact hv (UInt64.toNat_inj.1 (by simp;omega))
  have t2:(v.toNat==0)=false:=by rw [beq_eq_false_iff_ne];intro e;exact hv (UInt64.toNat_inj.1 (by simp;omega))
  clear h hj hv;unfold I7 at HC;go_enter Tryz.func96,Tryz.ntmps96
  go_wp2_with fail
  refine HC.out.mono ?_;rintro e w1⟨rfl,F1,hx1,hm1⟩;have HX:=Aa hx1;have HM:=Aa hm1;clear HC hx1 hm1
  go_wp2_with fail
  go_ret;exact⟨by rw [HP.out];rfl,F1,by rw [HP.out];exact HX.out,HM.out⟩
def Lh(l:List Wr):Bool:=decide (l.length<=16)&&Ur l&&l.all CX
theorem vO{l:List Wr}(h:16<l.length):Lh l=false:=by
 unfold Lh;rw [decide_eq_false (by omega)];rfl
theorem vP{l:List Wr}{k:Nat}(hk:k<l.length)(h:CX l[k]=false):Lh l=false:=by
 unfold Lh;rw [Bool.and_eq_false_iff];exact .inr (by rw [List.all_eq_false];exact⟨_,BD hk,by rw [h];decide⟩)
theorem vS{l:List Wr}{m:Nat}(hm:m+1<l.length)(h:Op.bytesLess (l[m]'(by omega)).key.toList l[m+1].key.toList=false):Lh l=false:=by
 unfold Lh;rw [zu hm h,Bool.and_false];rfl
theorem Z5{l:List Wr}(h:l.length<=16)(h1:∀j(hj:j<l.length),CX l[j]=true)(h2:XB l l.length):Lh l=true:=by
 unfold Lh;rw [decide_eq_true h,(Us l).1 h2,Bool.true_and,Bool.true_and,List.all_eq_true];intro x hx;obtain⟨j,hj,rfl⟩:=List.getElem_of_mem hx;exact h1 j hj
theorem Ada{w:World}{G:Nat->Prop}{v:Value}{l:List Wr}(h:Hf w G v l)(hl:l.length<=100000)(hsz:∀x∈l,x.key.size<=4294967296/\x.text.size<=4294967296):Calls Tryz.prog 45 #[v] w fun e w'=>e= .returned (.bool (Lh l))/\Below w.heap.size w w':=by
 obtain⟨A0,c,rfl⟩:=h.slice;have HS:=Aa h;have HSz:=Aa hsz;clear h hsz;by_cases h16:16<l.length
 ·have t1:decide ((16:Int)<(l.length:Int))=true:=decide_eq_true (by omega);have HV:Hid (Lh l=false):=Aa (vO h16);clear h16;go_enter Tryz.func45,Tryz.ntmps45
  go_wp2_with fail
  go_ret;exact⟨by rw [HV.out];rfl,Below.refl _ _⟩
 have t1:decide ((16:Int)<(l.length:Int))=false:=decide_eq_false (by omega);go_enter Tryz.func45,Tryz.ntmps45
 go_wp2_with fail
 go_loopw [10](fun i wr=>∃k:Nat,k<=l.length/\i= .int .i64 (k:Nat)/\(∀j(hj:j<l.length),j<k->CX l[j]=true)/\XB l k/\Below w.heap.size w wr)(fun i _=>l.length- (intOf i).toNat)
 case atStart=>exact⟨0,Nat.zero_le _,rfl,fun j _ h=>absurd h (Nat.not_lt_zero _),fun j _ h=>absurd h (by omega),Below.refl _ _⟩
 case round=>
  obtain⟨k,hk,rfl,Yi,hup,hb⟩:=hrel;have HB:=Aa hb;have HRi:=Aa Yi;have HUp:=Aa hup;clear Yi hup hb;by_cases hlt:k<l.length
  ·obtain⟨b2,off,c2,hv2,_,hbw,_,q0,q1,q2⟩:=(HS.out.below HB.out).at k hlt;simp only [Value.slice.injEq]at hv2;obtain⟨rfl, -,rfl⟩:=hv2;have hx1:(k:Int)<(l.length:Int):=by omega
   have hx2:decide ((k:Int)<(l.length:Int))=true:=decide_eq_true hx1;have hx5:decide (k<l.length)=true:=decide_eq_true hlt;have hwk:IntKind.i64.wrap ((k:Int)+1)=(k:Int)+1:=IntWalk.i64_in _ (by omega);obtain⟨y,hy⟩:∃y,y=l[k]:=⟨_,rfl⟩;have Ajm:=HSz.out y (hy▸BD hlt);have HY:=Aa hy;rw [<-hy]at q0 q1 q2;have HR:=Aa (fun W=>NV y W Ajm.1 Ajm.2);unfold ND at HR;obtain⟨W2,hW2⟩:∃W2,W2=wr.alloc (.cells #[.string y.key,.string y.text,.bool y.gone] 87):=⟨_,rfl⟩;have hbt:Below wr.heap.size wr W2:=hW2▸(Below.refl _ _).alloc (Nat.le_refl _) _;have B2:BH W2 wr.heap.size 87 [.string y.key,.string y.text,.bool y.gone]:=hW2▸heap_alloc_new _ _;have z0:=B2.cell 0;have z1:=B2.cell 1;have z2:=B2.cell 2;simp only [Ac,Ae]at z0 z1 z2;have HBt:=Aa (HB.out.trans (hbt.mono HB.out.size));have HZ:Hid (∀W,Below W2.heap.size W2 W->W.cell? ⟨wr.heap.size,0,none⟩=some (.string y.key)/\W.cell? ⟨wr.heap.size,1,none⟩=some (.string y.text)/\W.cell? ⟨wr.heap.size,2,none⟩=some (.bool y.gone)):=Aa (fun W k=>⟨(B2.below k B2.lt).cell 0,(B2.below k B2.lt).cell 1,(B2.below k B2.lt).cell 2⟩);have HW2:=Aa hW2;clear hW2 B2 hbt hy;cases hr:CX y with
   | false=>
     rw [hr]at HR;have HV:Hid (Lh l=false):=Aa (vP hlt (by rw [<-HY.out];exact hr));clear hr
     go_wp2_with fail
     rw [<-HW2.out];refine wp_region_held_drew (S:=(fun w'=>w'.cell? ⟨wr.heap.size,0,none⟩=some (.string y.key)/\w'.cell? ⟨wr.heap.size,1,none⟩=some (.string y.text)/\w'.cell? ⟨wr.heap.size,2,none⟩=some (.bool y.gone))) (by kernel_rfl) ⟨z0,z1,z2⟩ (fun hHeld=> ?_);refine Ew 0 (.agg #[.string y.key,.string y.text,.bool y.gone]) rfl (by kernel_rfl) (fun _ _ _ h=>h) (by rfl) (fun w hSw=>by obtain⟨s0,s1,s2⟩:=hSw;go_simp) hHeld ?_
     try simp only [Act.put,Ap,Ah,Ag,Aj,Am]
     refine wpAnyH_ready (rs:=[1]) (by kernel_rfl) (by simp) ?_;refine AllReadyH.cons rfl (fun K hK=> ?_) AllReadyH.nil;go_simp;go_at_call 90;refine(HR.out _).mono ?_;rintro e w3⟨rfl,hb3⟩;have hb4:Below W2.heap.size W2 w3:=(((Dr.drew _).below _).trans hb3);refine hK.out _ _ (HZ.out _ hb4) (fun hHeld=> ?_);clear hK K
     try simp only [Act.put,Ap,Ak,Ah,Ag,Aj,Am]
     refine Ew 2 (.bool true) rfl (by kernel_rfl) (fun _ _ _ h=>h) (by rfl) (fun w hSw=>by clear hSw;go_simp) hHeld ?_;refine Ew 3 (.bool true) rfl (by kernel_rfl) (fun _ _ _ h=>h) (by rfl) (fun w hSw=>by clear hSw;go_simp) hHeld ?_;refine wpAnyH_take (i:=4) (v:=undef) rfl (by kernel_rfl) (by kernel_rfl) (by kernel_rfl) (fun _ _ _ h=>h) (Or.inr ⟨by rfl,rfl⟩) (by assumption) ?_
     try simp only [Act.put,Ap,Ak,Ah,Ag,Aj,Am]
     refine wpAnyH_take (i:=5) (v:=undef) rfl (by kernel_rfl) (by kernel_rfl) (by kernel_rfl) (fun _ _ _ h=>h) (Or.inr ⟨by rfl,rfl⟩) (by assumption) ?_;refine wpAnyH_take (i:=6) (v:=undef) rfl (by kernel_rfl) (by kernel_rfl) (by kernel_rfl) (fun _ _ _ h=>h) (Or.inr ⟨by rfl,rfl⟩) (by assumption) ?_;refine wpAnyH_take (i:=7) (v:=undef) rfl (by kernel_rfl) (by kernel_rfl) (by kernel_rfl) (fun _ _ _ h=>h) (Or.inr ⟨by rfl,rfl⟩) (by assumption) ?_
     try simp only [Act.put,Ap,Ak,Ah,Ag,Aj,Am]
     refine wpAnyH_take (i:=8) (v:=undef) rfl (by kernel_rfl) (by kernel_rfl) (by kernel_rfl) (fun _ _ _ h=>h) (Or.inr ⟨by rfl,rfl⟩) (by assumption) ?_;refine wpAnyH_take (i:=9) (v:=undef) rfl (by kernel_rfl) (by kernel_rfl) (by kernel_rfl) (fun _ _ _ h=>h) (Or.inr ⟨by rfl,rfl⟩) (by assumption) ?_;refine wpAnyH_take (i:=10) (v:=undef) rfl (by kernel_rfl) (by kernel_rfl) (by kernel_rfl) (fun _ _ _ h=>h) (Or.inr ⟨by rfl,rfl⟩) (by assumption) ?_
     try simp only [Act.put,Ap,Ak,Ah,Ag,Aj,Am]
     refine wpAnyH_take (i:=11) (v:=undef) rfl (by kernel_rfl) (by kernel_rfl) (by kernel_rfl) (fun _ _ _ h=>h) (Or.inr ⟨by rfl,rfl⟩) (by assumption) ?_;refine wpAnyH_take (i:=12) (v:=undef) rfl (by kernel_rfl) (by kernel_rfl) (by kernel_rfl) (fun _ _ _ h=>h) (Or.inr ⟨by rfl,rfl⟩) (by assumption) ?_;refine wpAnyH_take (i:=13) (v:=undef) rfl (by kernel_rfl) (by kernel_rfl) (by kernel_rfl) (fun _ _ _ h=>h) (Or.inr ⟨by rfl,rfl⟩) (by assumption) ?_
     try simp only [Act.put,Ap,Ak,Ah,Ag,Aj,Am]
     refine wpAnyH_take (i:=14) (v:=undef) rfl (by kernel_rfl) (by kernel_rfl) (by kernel_rfl) (fun _ _ _ h=>h) (Or.inr ⟨by rfl,rfl⟩) (by assumption) ?_;refine wpAnyH_take (i:=15) (v:=undef) rfl (by kernel_rfl) (by kernel_rfl) (by kernel_rfl) (fun _ _ _ h=>h) (Or.inr ⟨by rfl,rfl⟩) (by assumption) ?_;refine wpAnyH_take (i:=16) (v:=undef) rfl (by kernel_rfl) (by kernel_rfl) (by kernel_rfl) (fun _ _ _ h=>h) (Or.inr ⟨by rfl,rfl⟩) (by assumption) ?_
     try simp only [Act.put,Ap,Ak,Ah,Ag,Aj,Am]
     refine Ew 17 (.bool true) rfl (by kernel_rfl) (fun _ _ _ h=>h) (by rfl) (fun w hSw=>by clear hSw;go_simp) hHeld ?_
     try simp only [Act.put,Ap,Ak,Ah,Ag,Aj,Am]
     refine wpAnyH_done (by kernel_rfl) ?_ _;have HB4:=Aa (HBt.out.trans (hb4.mono HBt.out.size));clear hb3 hb4 z0 z1 z2 hHeld
     go_wp2_with fail
     go_ret;exact⟨by rw [HV.out];rfl,HB4.out⟩
   | true=>
     rw [hr]at HR;have HRn:Hid (∀j(hj:j<l.length),j<k+1->CX l[j]=true):=Aa (fun j hj hjk=>by
      by_cases e:j=k
      ·subst e;rw [<-HY.out];exact hr
      ·exact HRi.out j hj (by omega))
     clear hr;by_cases hk0:k=0
     ·have HUn:Hid (XB l (k+1)):=Aa (fun j hj hjk=>absurd hjk (by omega));have hx6:decide ((0:Int)<(k:Int))=false:=decide_eq_false (by omega);have hx7:decide (0<k)=false:=decide_eq_false (by omega);clear hk0
      go_wp2_with fail
      rw [<-HW2.out];refine wp_region_held_drew (S:=(fun w'=>w'.cell? ⟨wr.heap.size,0,none⟩=some (.string y.key)/\w'.cell? ⟨wr.heap.size,1,none⟩=some (.string y.text)/\w'.cell? ⟨wr.heap.size,2,none⟩=some (.bool y.gone))) (by kernel_rfl) ⟨z0,z1,z2⟩ (fun hHeld=> ?_);refine Ew 0 (.agg #[.string y.key,.string y.text,.bool y.gone]) rfl (by kernel_rfl) (fun _ _ _ h=>h) (by rfl) (fun w hSw=>by obtain⟨s0,s1,s2⟩:=hSw;go_simp) hHeld ?_
      try simp only [Act.put,Ap,Ah,Ag,Aj,Am]
      refine wpAnyH_ready (rs:=[1]) (by kernel_rfl) (by simp) ?_;refine AllReadyH.cons rfl (fun K hK=> ?_) AllReadyH.nil;go_simp;go_at_call 90;refine(HR.out _).mono ?_;rintro e w3⟨rfl,hb3⟩;have hb4:Below W2.heap.size W2 w3:=(((Dr.drew _).below _).trans hb3);refine hK.out _ _ (HZ.out _ hb4) (fun hHeld=> ?_);clear hK K
      try simp only [Act.put,Ap,Ak,Ah,Ag,Aj,Am]
      refine Ew 2 (.bool false) rfl (by kernel_rfl) (fun _ _ _ h=>h) (by rfl) (fun w hSw=>by clear hSw;go_simp) hHeld ?_;refine Ew 3 (.bool false) rfl (by kernel_rfl) (fun _ _ _ h=>h) (by rfl) (fun w hSw=>by clear hSw;go_simp) hHeld ?_;refine Ew 4 (.int .i64 (k:Int)) rfl (by kernel_rfl) (fun _ _ _ h=>h) (by rfl) (fun w hSw=>by clear hSw;go_simp) hHeld ?_
      try simp only [Act.put,Ap,Ak,Ah,Ag,Aj,Am]
      refine Ew 5 (.bool false) rfl (by kernel_rfl) (fun _ _ _ h=>h) (by rfl) (fun w hSw=>by clear hSw;go_simp) hHeld ?_;refine Ew 6 (.bool false) rfl (by kernel_rfl) (fun _ _ _ h=>h) (by rfl) (fun w hSw=>by clear hSw;go_simp) hHeld ?_;refine wpAnyH_take (i:=7) (v:=undef) rfl (by kernel_rfl) (by kernel_rfl) (by kernel_rfl) (fun _ _ _ h=>h) (Or.inr ⟨by rfl,rfl⟩) (by assumption) ?_
      try simp only [Act.put,Ap,Ak,Ah,Ag,Aj,Am]
      refine wpAnyH_take (i:=8) (v:=undef) rfl (by kernel_rfl) (by kernel_rfl) (by kernel_rfl) (fun _ _ _ h=>h) (Or.inr ⟨by rfl,rfl⟩) (by assumption) ?_;refine wpAnyH_take (i:=9) (v:=undef) rfl (by kernel_rfl) (by kernel_rfl) (by kernel_rfl) (fun _ _ _ h=>h) (Or.inr ⟨by rfl,rfl⟩) (by assumption) ?_;refine wpAnyH_take (i:=10) (v:=undef) rfl (by kernel_rfl) (by kernel_rfl) (by kernel_rfl) (fun _ _ _ h=>h) (Or.inr ⟨by rfl,rfl⟩) (by assumption) ?_
      try simp only [Act.put,Ap,Ak,Ah,Ag,Aj,Am]
      refine wpAnyH_take (i:=11) (v:=undef) rfl (by kernel_rfl) (by kernel_rfl) (by kernel_rfl) (fun _ _ _ h=>h) (Or.inr ⟨by rfl,rfl⟩) (by assumption) ?_;refine wpAnyH_take (i:=12) (v:=undef) rfl (by kernel_rfl) (by kernel_rfl) (by kernel_rfl) (fun _ _ _ h=>h) (Or.inr ⟨by rfl,rfl⟩) (by assumption) ?_;refine wpAnyH_take (i:=13) (v:=undef) rfl (by kernel_rfl) (by kernel_rfl) (by kernel_rfl) (fun _ _ _ h=>h) (Or.inr ⟨by rfl,rfl⟩) (by assumption) ?_
      try simp only [Act.put,Ap,Ak,Ah,Ag,Aj,Am]
      refine wpAnyH_take (i:=14) (v:=undef) rfl (by kernel_rfl) (by kernel_rfl) (by kernel_rfl) (fun _ _ _ h=>h) (Or.inr ⟨by rfl,rfl⟩) (by assumption) ?_;refine wpAnyH_take (i:=15) (v:=undef) rfl (by kernel_rfl) (by kernel_rfl) (by kernel_rfl) (fun _ _ _ h=>h) (Or.inr ⟨by rfl,rfl⟩) (by assumption) ?_;refine Ew 16 (.bool false) rfl (by kernel_rfl) (fun _ _ _ h=>h) (by rfl) (fun w hSw=>by clear hSw;go_simp) hHeld ?_
      try simp only [Act.put,Ap,Ak,Ah,Ag,Aj,Am]
      refine Ew 17 (.bool false) rfl (by kernel_rfl) (fun _ _ _ h=>h) (by rfl) (fun w hSw=>by clear hSw;go_simp) hHeld ?_
      try simp only [Act.put,Ap,Ak,Ah,Ag,Aj,Am]
      refine wpAnyH_done (by kernel_rfl) ?_ _;have HB4:=Aa (HBt.out.trans (hb4.mono HBt.out.size));clear hb3 hb4 z0 z1 z2 hHeld
      go_wp2_with fail
      go_roundw
      case rel=>exact⟨k+1,by omega,by go_num,HRn.out,HUn.out,HB4.out⟩
      case measure=>simp [intOf];omega
     ·obtain⟨m,hkm⟩:∃m,k=m+1:=⟨k-1,by omega⟩;have HKm:=Aa hkm;have hml:m<l.length:=by omega
      obtain⟨b3,Ahm,c3,hv3,_,hbw3,_,p0,_,_⟩:=(HS.out.below HB.out).at m hml;simp only [Value.slice.injEq,Option.some.injEq,Addr.mk.injEq,true_and,and_true]at hv3;obtain⟨⟨rfl,rfl⟩,rfl⟩:=hv3;obtain⟨z,hz⟩:∃z,z=l[m]'hml:=⟨_,rfl⟩;rw [<-hz]at p0;have hpw:W2.cell? ⟨b2,off+m*3,none⟩=some (.string z.key):=by rw [HW2.out];exact(World.cell?_of_block (w:=wr) (heap_alloc_old _ _ hbw)).trans p0
      have HPv:Hid (∀W,Below W2.heap.size W2 W->W.cell? ⟨b2,off+m*3,none⟩=some (.string z.key)):=Aa (fun W k=>(World.cell?_of_block (w:=W2) (k.block _ (World.block_lt_of_cell? W2 _ hpw))).trans hpw);have XX:Hid (Op.bytesLess z.key.toList y.key.toList=true->XB l (k+1)):=Aa (fun h j hj hjk=>by
       have Af2:=HKm.out;subst Af2;by_cases e:j=m
       ·subst e;rw [<-hz,<-HY.out];exact h
       ·exact HUp.out j hj (by omega))
      have HLn:Hid (Op.bytesLess z.key.toList y.key.toList=false->Lh l=false):=Aa (fun h=>by
       have Af2:=HKm.out;subst Af2;exact vS hlt (by rw [<-hz,<-HY.out];exact h))
      have hx6:decide ((0:Int)<(k:Int))=true:=decide_eq_true (by omega);have hx7:decide (0<k)=true:=decide_eq_true (by omega);have hwm:IntKind.i64.wrap ((k:Int) -1)=(m:Int):=(IntWalk.i64_in _ (by omega)).trans (by omega);have Alv:(m:Int)<(l.length:Int):=by omega
      have Am1:decide ((m:Int)<(l.length:Int))=true:=decide_eq_true Alv;have Am2:decide (m<l.length)=true:=decide_eq_true (by omega);clear hkm hk0 hz;cases hls:Op.bytesLess z.key.toList y.key.toList with
      | true=>
        have HUn:=Aa (XX.out hls)
        go_wp2_with fail
        rw [<-HW2.out];refine wp_region_held_drew (S:=(fun w'=>w'.cell? ⟨wr.heap.size,0,none⟩=some (.string y.key)/\w'.cell? ⟨wr.heap.size,1,none⟩=some (.string y.text)/\w'.cell? ⟨wr.heap.size,2,none⟩=some (.bool y.gone)/\w'.cell? ⟨b2,off+m*3,none⟩=some (.string z.key))) (by kernel_rfl) ⟨z0,z1,z2,hpw⟩ (fun hHeld=> ?_);refine Ew 0 (.agg #[.string y.key,.string y.text,.bool y.gone]) rfl (by kernel_rfl) (fun _ _ _ h=>h) (by rfl) (fun w hSw=>by obtain⟨s0,s1,s2,s3⟩:=hSw;go_simp) hHeld ?_
        try simp only [Act.put,Ap,Ah,Ag,Aj,Am]
        refine wpAnyH_ready (rs:=[1]) (by kernel_rfl) (by simp) ?_;refine AllReadyH.cons rfl (fun K hK=> ?_) AllReadyH.nil;go_simp;go_at_call 90;refine(HR.out _).mono ?_;rintro e w3⟨rfl,hb3⟩;have hb4:Below W2.heap.size W2 w3:=(((Dr.drew _).below _).trans hb3);refine hK.out _ _ (⟨(HZ.out _ hb4).1,(HZ.out _ hb4).2.1,(HZ.out _ hb4).2.2,HPv.out _ hb4⟩) (fun hHeld=> ?_);clear hK K
        try simp only [Act.put,Ap,Ak,Ah,Ag,Aj,Am]
        refine Ew 2 (.bool false) rfl (by kernel_rfl) (fun _ _ _ h=>h) (by rfl) (fun w hSw=>by clear hSw;go_simp) hHeld ?_;refine Ew 3 (.bool false) rfl (by kernel_rfl) (fun _ _ _ h=>h) (by rfl) (fun w hSw=>by clear hSw;go_simp) hHeld ?_;refine Ew 4 (.int .i64 (k:Int)) rfl (by kernel_rfl) (fun _ _ _ h=>h) (by rfl) (fun w hSw=>by clear hSw;go_simp) hHeld ?_
        try simp only [Act.put,Ap,Ak,Ah,Ag,Aj,Am]
        refine Ew 5 (.bool true) rfl (by kernel_rfl) (fun _ _ _ h=>h) (by rfl) (fun w hSw=>by clear hSw;go_simp) hHeld ?_;refine Ew 6 (.bool true) rfl (by kernel_rfl) (fun _ _ _ h=>h) (by rfl) (fun w hSw=>by clear hSw;go_simp) hHeld ?_;refine Ew 7 (.slice (some ⟨b2,off,none⟩) l.length c) rfl (by kernel_rfl) (fun _ _ _ h=>h) (by rfl) (fun w hSw=>by clear hSw;go_simp) hHeld ?_
        try simp only [Act.put,Ap,Ak,Ah,Ag,Aj,Am]
        refine Ew 8 (.int .i64 (k:Int)) rfl (by kernel_rfl) (fun _ _ _ h=>h) (by rfl) (fun w hSw=>by clear hSw;go_simp) hHeld ?_;refine Ew 9 (.int .i64 (m:Int)) rfl (by kernel_rfl) (fun _ _ _ h=>h) (by rfl) (fun w hSw=>by clear hSw;go_simp) hHeld ?_;refine Ew 10 (.pointer (some ⟨b2,off+m*3,none⟩)) rfl (by kernel_rfl) (fun _ _ _ h=>h) (by rfl) (fun w hSw=>by clear hSw;go_simp) hHeld ?_
        try simp only [Act.put,Ap,Ak,Ah,Ag,Aj,Am]
        refine Ew 11 (.pointer (some ⟨b2,off+m*3,none⟩)) rfl (by kernel_rfl) (fun _ _ _ h=>h) (by rfl) (fun w hSw=>by clear hSw;go_simp) hHeld ?_;refine Ew 12 (.string z.key) rfl (by kernel_rfl) (fun _ _ _ h=>h) (by rfl) (fun w hSw=>by obtain⟨s0,s1,s2,s3⟩:=hSw;go_simp) hHeld ?_;refine Ew 13 (.pointer (some ⟨wr.heap.size,0,none⟩)) rfl (by kernel_rfl) (fun _ _ _ h=>h) (by rfl) (fun w hSw=>by clear hSw;go_simp) hHeld ?_
        try simp only [Act.put,Ap,Ak,Ah,Ag,Aj,Am]
        refine Ew 14 (.string y.key) rfl (by kernel_rfl) (fun _ _ _ h=>h) (by rfl) (fun w hSw=>by obtain⟨s0,s1,s2,s3⟩:=hSw;go_simp) hHeld ?_;refine Ew 15 (.bool false) rfl (by kernel_rfl) (fun _ _ _ h=>h) (by rfl) (fun w hSw=>by clear hSw;go_simp) hHeld ?_;refine Ew 16 (.bool false) rfl (by kernel_rfl) (fun _ _ _ h=>h) (by rfl) (fun w hSw=>by clear hSw;go_simp) hHeld ?_
        try simp only [Act.put,Ap,Ak,Ah,Ag,Aj,Am]
        refine Ew 17 (.bool false) rfl (by kernel_rfl) (fun _ _ _ h=>h) (by rfl) (fun w hSw=>by clear hSw;go_simp) hHeld ?_
        try simp only [Act.put,Ap,Ak,Ah,Ag,Aj,Am]
        refine wpAnyH_done (by kernel_rfl) ?_ _;have HB4:=Aa (HBt.out.trans (hb4.mono HBt.out.size));clear hb3 hb4 z0 z1 z2 hHeld
        go_wp2_with fail
        go_roundw
        case rel=>exact⟨k+1,by omega,by go_num,HRn.out,HUn.out,HB4.out⟩
        case measure=>simp [intOf];omega
      | false=>
        have HV:=Aa (HLn.out hls)
        go_wp2_with fail
        rw [<-HW2.out];refine wp_region_held_drew (S:=(fun w'=>w'.cell? ⟨wr.heap.size,0,none⟩=some (.string y.key)/\w'.cell? ⟨wr.heap.size,1,none⟩=some (.string y.text)/\w'.cell? ⟨wr.heap.size,2,none⟩=some (.bool y.gone)/\w'.cell? ⟨b2,off+m*3,none⟩=some (.string z.key))) (by kernel_rfl) ⟨z0,z1,z2,hpw⟩ (fun hHeld=> ?_);refine Ew 0 (.agg #[.string y.key,.string y.text,.bool y.gone]) rfl (by kernel_rfl) (fun _ _ _ h=>h) (by rfl) (fun w hSw=>by obtain⟨s0,s1,s2,s3⟩:=hSw;go_simp) hHeld ?_
        try simp only [Act.put,Ap,Ah,Ag,Aj,Am]
        refine wpAnyH_ready (rs:=[1]) (by kernel_rfl) (by simp) ?_;refine AllReadyH.cons rfl (fun K hK=> ?_) AllReadyH.nil;go_simp;go_at_call 90;refine(HR.out _).mono ?_;rintro e w3⟨rfl,hb3⟩;have hb4:Below W2.heap.size W2 w3:=(((Dr.drew _).below _).trans hb3);refine hK.out _ _ (⟨(HZ.out _ hb4).1,(HZ.out _ hb4).2.1,(HZ.out _ hb4).2.2,HPv.out _ hb4⟩) (fun hHeld=> ?_);clear hK K
        try simp only [Act.put,Ap,Ak,Ah,Ag,Aj,Am]
        refine Ew 2 (.bool false) rfl (by kernel_rfl) (fun _ _ _ h=>h) (by rfl) (fun w hSw=>by clear hSw;go_simp) hHeld ?_;refine Ew 3 (.bool false) rfl (by kernel_rfl) (fun _ _ _ h=>h) (by rfl) (fun w hSw=>by clear hSw;go_simp) hHeld ?_;refine Ew 4 (.int .i64 (k:Int)) rfl (by kernel_rfl) (fun _ _ _ h=>h) (by rfl) (fun w hSw=>by clear hSw;go_simp) hHeld ?_
        try simp only [Act.put,Ap,Ak,Ah,Ag,Aj,Am]
        refine Ew 5 (.bool true) rfl (by kernel_rfl) (fun _ _ _ h=>h) (by rfl) (fun w hSw=>by clear hSw;go_simp) hHeld ?_;refine Ew 6 (.bool true) rfl (by kernel_rfl) (fun _ _ _ h=>h) (by rfl) (fun w hSw=>by clear hSw;go_simp) hHeld ?_;refine Ew 7 (.slice (some ⟨b2,off,none⟩) l.length c) rfl (by kernel_rfl) (fun _ _ _ h=>h) (by rfl) (fun w hSw=>by clear hSw;go_simp) hHeld ?_
        try simp only [Act.put,Ap,Ak,Ah,Ag,Aj,Am]
        refine Ew 8 (.int .i64 (k:Int)) rfl (by kernel_rfl) (fun _ _ _ h=>h) (by rfl) (fun w hSw=>by clear hSw;go_simp) hHeld ?_;refine Ew 9 (.int .i64 (m:Int)) rfl (by kernel_rfl) (fun _ _ _ h=>h) (by rfl) (fun w hSw=>by clear hSw;go_simp) hHeld ?_;refine Ew 10 (.pointer (some ⟨b2,off+m*3,none⟩)) rfl (by kernel_rfl) (fun _ _ _ h=>h) (by rfl) (fun w hSw=>by clear hSw;go_simp) hHeld ?_
        try simp only [Act.put,Ap,Ak,Ah,Ag,Aj,Am]
        refine Ew 11 (.pointer (some ⟨b2,off+m*3,none⟩)) rfl (by kernel_rfl) (fun _ _ _ h=>h) (by rfl) (fun w hSw=>by clear hSw;go_simp) hHeld ?_;refine Ew 12 (.string z.key) rfl (by kernel_rfl) (fun _ _ _ h=>h) (by rfl) (fun w hSw=>by obtain⟨s0,s1,s2,s3⟩:=hSw;go_simp) hHeld ?_;refine Ew 13 (.pointer (some ⟨wr.heap.size,0,none⟩)) rfl (by kernel_rfl) (fun _ _ _ h=>h) (by rfl) (fun w hSw=>by clear hSw;go_simp) hHeld ?_
        try simp only [Act.put,Ap,Ak,Ah,Ag,Aj,Am]
        refine Ew 14 (.string y.key) rfl (by kernel_rfl) (fun _ _ _ h=>h) (by rfl) (fun w hSw=>by obtain⟨s0,s1,s2,s3⟩:=hSw;go_simp) hHeld ?_;refine Ew 15 (.bool true) rfl (by kernel_rfl) (fun _ _ _ h=>h) (by rfl) (fun w hSw=>by clear hSw;go_simp) hHeld ?_;refine Ew 16 (.bool true) rfl (by kernel_rfl) (fun _ _ _ h=>h) (by rfl) (fun w hSw=>by clear hSw;go_simp) hHeld ?_
        try simp only [Act.put,Ap,Ak,Ah,Ag,Aj,Am]
        refine Ew 17 (.bool true) rfl (by kernel_rfl) (fun _ _ _ h=>h) (by rfl) (fun w hSw=>by clear hSw;go_simp) hHeld ?_
        try simp only [Act.put,Ap,Ak,Ah,Ag,Aj,Am]
        refine wpAnyH_done (by kernel_rfl) ?_ _;have HB4:=Aa (HBt.out.trans (hb4.mono HBt.out.size));clear hb3 hb4 z0 z1 z2 hHeld
        go_wp2_with fail
        go_ret;exact⟨by rw [HV.out];rfl,HB4.out⟩
  ·have hkn:k=l.length:=by omega
   have hx1:decide ((k:Int)<(l.length:Int))=false:=decide_eq_false (by omega);have hx5:decide (k<l.length)=false:=decide_eq_false hlt;have HV:Hid (Lh l=true):=Aa (Z5 (by omega) (fun j hj=>HRi.out j hj (by omega)) (fun j hj hjk=>HUp.out j hj (by omega)));clear hkn
   go_wp2_with fail
   go_ret;exact⟨by rw [HV.out];rfl,HB.out⟩
section
variable{len:Nat->Nat}{w w':World}{x d p L:Nat}{s:St}{F:Nat->Prop}
def U1(slot stamp:UInt64)(l:List Wr):Bool:=decide (slot.toNat<stamp.toNat)&&decide (stamp.toNat<=60000)&&Lh l
theorem OQ(h:GU len w d p L s F){G:Nat->Prop}{v:Value}{l:List Wr}(hv:Hf w G v l)(hl:l.length<=100000)(hsz:∀x∈l,x.key.size<=4294967296/\x.text.size<=4294967296)(stamp:UInt64):
 Calls Tryz.prog 15 #[.pointer (some ⟨d,0,none⟩),.pointer (some ⟨p,0,none⟩),.pointer (some ⟨x,0,none⟩),.int .u64 (stamp.toNat:Int),v] w fun e w'=>Below w.heap.size w w'/\
  (U1 (s.ws 8) stamp l=true->∃jb vs,e= .returned (.tuple #[.pointer (some ⟨jb,0,none⟩),.int .i64 0])/\
   w.heap.size<=jb/\BH w' jb 113 (Bv x d p stamp vs (.slice none 0 0) false 0)/\(∀G:Nat->Prop,(∀b,w.heap.size<=b->b<jb->¬G b)->Hf w' G vs l))/\
  (U1 (s.ws 8) stamp l=false->e= .returned (.tuple #[.pointer none,.int .i64 2])):=by
 have hL:=h.pos.1;have t0:(((L*64:Nat):Int)==0)=false:=by rw [beq_eq_false_iff_ne];omega
 have HS:=Aa h.size;obtain⟨sz,hsz'⟩:∃sz,L*64=sz:=⟨_,rfl⟩;rw [hsz']at t0 HS;have hL2:=h.pos.2.2.1.fits;have hL3:=h.pos.2.2.1.NR;have HL:=Aa (h.load 8 (by omega));rw [show((8*8:Nat):Int)=64 from rfl]at HL;obtain⟨A0,c0,rfl⟩:=hv.slice;have HF:=Aa (Ada hv hl hsz);have HV:=Aa hv;have HLl:=Aa hl;clear h hv hsz hsz' hL hL2 hL3;by_cases h1:stamp.toNat<=(s.ws 8).toNat
 ·have t1:decide ((stamp.toNat:Int)<=((s.ws 8).toNat:Int))=true:=decide_eq_true (by omega);have t2:decide (stamp.toNat<=(s.ws 8).toNat)=true:=decide_eq_true h1;have HN:Hid (U1 (s.ws 8) stamp l=false):=Aa (by unfold U1;rw [decide_eq_false (by omega)];rfl);clear h1;go_enter Tryz.func15,Tryz.ntmps15
  go_wp2_with fail
  refine HS.out.mono ?_;rintro e w1⟨rfl,rfl⟩
  go_wp2_with fail
  refine HL.out.mono ?_;rintro e w1⟨rfl,rfl⟩
  go_wp2_with fail
  go_ret2;exact⟨Below.refl _ _,fun h=>absurd h (by rw [HN.out];decide),fun _=>rfl⟩
 have t1:decide ((stamp.toNat:Int)<=((s.ws 8).toNat:Int))=false:=decide_eq_false (by omega);have t2:decide (stamp.toNat<=(s.ws 8).toNat)=false:=decide_eq_false (by omega);by_cases h2:60000<stamp.toNat
 ·have t3:decide ((60000:Int)<(stamp.toNat:Int))=true:=decide_eq_true (by omega);have t4:decide (60000<stamp.toNat)=true:=decide_eq_true h2;have HN:Hid (U1 (s.ws 8) stamp l=false):=Aa (by unfold U1;rw [show decide (stamp.toNat<=60000)=false from decide_eq_false (by omega),Bool.and_false];rfl);clear h1 h2;go_enter Tryz.func15,Tryz.ntmps15
  go_wp2_with fail
  refine HS.out.mono ?_;rintro e w1⟨rfl,rfl⟩
  go_wp2_with fail
  refine HL.out.mono ?_;rintro e w1⟨rfl,rfl⟩
  go_wp2_with fail
  go_ret2;exact⟨Below.refl _ _,fun h=>absurd h (by rw [HN.out];decide),fun _=>rfl⟩
 have t3:decide ((60000:Int)<(stamp.toNat:Int))=false:=decide_eq_false (by omega);have t4:decide (60000<stamp.toNat)=false:=decide_eq_false (by omega);have hnb:U1 (s.ws 8) stamp l=Lh l:=by unfold U1;rw [decide_eq_true (by omega),decide_eq_true (by omega)];rfl
 cases hf:Lh l with
 | false=>
   rw [hf]at HF hnb;have HN:=Aa hnb;clear h1 h2 hnb hf;go_enter Tryz.func15,Tryz.ntmps15
   go_wp2_with fail
   refine HS.out.mono ?_;rintro e w1⟨rfl,rfl⟩
   go_wp2_with fail
   refine HL.out.mono ?_;rintro e w1⟨rfl,rfl⟩
   go_wp2_with fail
   refine HF.out.mono ?_;rintro e w1⟨rfl,hb1⟩;have HB1:=Aa hb1;clear hb1 HS HL HF
   go_wp2_with fail
   go_ret2;exact⟨HB1.out,fun h=>absurd h (by rw [HN.out];decide),fun _=>rfl⟩
 | true=>
   rw [hf]at HF hnb;have HN:=Aa hnb;clear h1 h2 hnb hf;go_enter Tryz.func15,Tryz.ntmps15
   go_wp2_with fail
   refine HS.out.mono ?_;rintro e w1⟨rfl,rfl⟩
   go_wp2_with fail
   refine HL.out.mono ?_;rintro e w1⟨rfl,rfl⟩
   go_wp2_with fail
   refine HF.out.mono ?_;rintro e w1⟨rfl,hb1⟩;have HC:=Aa (NW (HV.out.below hb1) HLl.out);have HB1:=Aa hb1;clear hb1 HS HL HF
   go_wp2_with fail
   refine HC.out.mono ?_;rintro e w2⟨u,rfl,hO,hB⟩;obtain⟨A5,c5,hu5,_,_⟩:=GL hO;subst hu5;have HO:=Aa hO;have HB:=Aa (HB1.out.trans (hB.mono HB1.out.size));clear hO hB HC
   go_wp2_with fail
   go_ret2;obtain⟨W,hW⟩:∃W,W=w2.alloc (.cells (Bv x d p stamp (.slice A5 l.length c5) (.slice none 0 0) false 0).toArray 113):=⟨_,rfl⟩;have hbW:Below w2.heap.size w2 W:=hW▸(Below.refl _ _).alloc (Nat.le_refl _) _;have hJ:BH W w2.heap.size 113 (Bv x d p stamp (.slice A5 l.length c5) (.slice none 0 0) false 0):=hW▸heap_alloc_new _ _;refine⟨by rw [hW]at hbW;exact HB.out.trans (hbW.mono HB.out.size),fun _=>⟨w2.heap.size,.slice A5 l.length c5,rfl,HB.out.size,by rw [hW]at hJ;exact hJ,fun G hG=> ?_⟩,fun h=>absurd h (by rw [HN.out];decide)⟩;have hs:Hf w2 G (.slice A5 l.length c5) l:=ik HO.out rfl (fun b hb hlt=>hG b (Nat.le_trans HB1.out.size hb) hlt);rw [hW]at hbW;exact hs.below hbW
theorem Adb{jb n k c c2:Nat}{stamp:UInt64}{A B:Option Addr}{en:Int}(h:BH w jb 113 (Bv x d p stamp (.slice A n c) (.slice B k c2) false en))(hn:n<=100000)(hk:k<=n):Calls Tryz.prog 18 #[.pointer (some ⟨jb,0,none⟩)] w fun e w'=>e= .returned (.int .i64 ((n-k+1:Nat):Int))/\Below w.heap.size w w':=by
 have HN:=Aa (Tq jb _ h);have j6:=h.cell 6;have j5:=h.cell 5;have j4:=h.cell 4;unfold Bv at j4 j5 j6;simp only [Ac,Ae]at j4 j5 j6;have e1:IntKind.i64.wrap ((n:Int) - (k:Int))=(n:Int) - (k:Int):=IntWalk.i64_in _ (by omega);have e2:IntKind.i64.wrap ((n:Int) - (k:Int)+1)=(n:Int) - (k:Int)+1:=IntWalk.i64_in _ (by omega);clear h;go_enter Tryz.func18,Tryz.ntmps18
 go_wp2_with fail
 refine HN.out.mono ?_;rintro e w1⟨rfl,rfl⟩
 go_wp2_with fail
 go_quiet(fail)
 go_wp2_with fail
 go_ret;exact⟨by rw [show((n-k+1:Nat):Int)=(n:Int) - (k:Int)+1 by omega];first| rfl| (rw [<-e2];rfl),by first| exact(Dr.one _ _).below _| exact Below.refl _ _⟩
theorem Aad{jb:Nat}{stamp:UInt64}{vs vd:Value}{en:Int}(h:BH w jb 113 (Bv x d p stamp vs vd true en)):Calls Tryz.prog 18 #[.pointer (some ⟨jb,0,none⟩)] w fun e w'=>e= .returned (.int .i64 0)/\w=w':=by
 have HN:=Aa (Tq jb _ h);have j6:=h.cell 6;unfold Bv at j6;simp only [Ac,Ae]at j6;clear h;go_enter Tryz.func18,Tryz.ntmps18
 go_wp2_with fail
 refine HN.out.mono ?_;rintro e w1⟨rfl,rfl⟩
 go_wp2_with fail
 go_ret;exact⟨rfl,rfl⟩
end
end Go.Proofs.YtjcppneoncpdbaaGreatDoor
