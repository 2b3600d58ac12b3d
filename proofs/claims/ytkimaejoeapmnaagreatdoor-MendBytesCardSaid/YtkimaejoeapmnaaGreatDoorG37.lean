import Derived.OrdersIn
import Derived.RangeFuncCalls
import Derived.Test.YtkimaejoeapmnaaGreatDoorG28
import Derived.Test.YtkimaejoeapmnaaGreatDoorG35
import Derived.Test.YtkimaejoeapmnaaGreatDoorG36
set_option maxHeartbeats 32000000
set_option maxRecDepth 100000
open Go.Lib renaming hid->Aa
open UInt64 renaming toNat_inj->Eo
open Array renaming replicate->Ad3
open List renaming getElem_mem->BM,getElem_toArray->Ap,getElem_cons_zero->Ag,setIfInBounds_toArray->Ae,set_cons_zero->Am,set_cons_succ->Aq,getElem_cons_succ->Ah
open Go.World renaming cell?_of_block->Bz
namespace Go.Proofs.YtkimaejoeapmnaaGreatDoor
open Go.RowKit
theorem Aj1{w:World}{x d p L:Nat}{s:St}{F:Nat->Prop}(h:Ix w x d p L s F){jb:Nat}{stamp:UInt64}{vs vd:Value}{en:Int}(hj:NT w jb x d p stamp vs vd false en F)(key:ByteArray)(hk:key.size<=1000)(v:UInt64):
 Calls Tryz.prog 143 #[Aw jb,.string key,.int .u64 (v.toNat:Int)] w fun e w'=>e= .returned (.int .i64 (RX s key.data.toList v).2)/\∃F',Ix w' x d p L (RX s key.data.toList v).1 F'/\AO F F' w w':=by
 have j2:=hj.box.cell 2;unfold DI at j2;simp only [List.getElem?_cons_zero,List.getElem?_cons_succ]at j2;by_cases hv:v=0
 ·have HC:=Aa (zL h key hk);have HP:Hid (RX s key.data.toList v=((U7 s key.data.toList).1,(U7 s key.data.toList).2.2)):=Aa (by unfold RX;rw [if_pos hv]);subst hv;rw [show((0:UInt64).toNat:Int)=0 from rfl];clear h hj;go_enter Tryz.func143,Tryz.ntmps143
  go_wp2_with fail
  refine HC.out.mono ?_;rintro e w1⟨rfl,F1,hx1,hm1⟩;have HX:=Aa hx1;have HM:=Aa hm1;clear HC hx1 hm1
  go_wp2_with fail
  go_ret;exact⟨by rw [HP.out];rfl,F1,by rw [HP.out];exact HX.out,HM.out⟩
 ·have HC:=Aa (VT h key hk v);have HP:Hid (RX s key.data.toList v=KW s key.data.toList v):=Aa (by unfold RX;rw [if_neg hv]);have t1:((v.toNat:Int)==0)=false:=by rw [beq_eq_false_iff_ne];intro e;exact hv (Eo.1 (by simp;omega))
  have t2:(v.toNat==0)=false:=by rw [beq_eq_false_iff_ne];intro e;exact hv (Eo.1 (by simp;omega))
  clear h hj hv;unfold jA at HC;go_enter Tryz.func143,Tryz.ntmps143
  go_wp2_with fail
  refine HC.out.mono ?_;rintro e w1⟨rfl,F1,hx1,hm1⟩;have HX:=Aa hx1;have HM:=Aa hm1;clear HC hx1 hm1
  go_wp2_with fail
  go_ret;exact⟨by rw [HP.out];rfl,F1,by rw [HP.out];exact HX.out,HM.out⟩
section
variable{P:Program}{ops:Array Oper}{Q:Exit->Act->World->Prop}{n l0:Nat}
def Xo(Q:Exit->Act->World->Prop):Exit->Act->World->Prop:=fun e a w=>e≠.outgrown/\Q e a w
theorem Xo.not:¬LetsOut (Xo Q):=fun⟨_,_,h,_⟩=>h rfl
theorem ZR{o:Oper}{a:Act}{K K':Act->World->Prop}(hK:∀a w,K a w->K' a w){r:Result Next}(h:o.upon P a K (Xo Q) r):o.uponIn (Fence.wide.inRound l0) n P a K' Q r:=by
 cases r with
 | ok x w'=>
   cases x with
   | value v=>exact hK _ _ h
   | skip=>exact hK _ _ h
   | defer d=>exact hK _ _ h
   | enter f args=>
     refine⟨fun h=>(by cases h),CallsIn.inRound l0 ((callsIn_wide.2 (show Calls P f args w' _ from h)).mono ?_)⟩;intro e w'' he;cases e with
     | returned v=>exact hK _ _ he
     | panicked c=>exact he.2
     | outgrown=>exact(Xo.not he).elim
   | row row args=>exact⟨fun h=>(by cases h),fun c cs _=>let⟨v,w'',q,s⟩:=(show Rows P row args w' _ from h) c cs;⟨v,w'',hK _ _ q,stepsIn_wide.2 s⟩⟩
   | _=>exact h.elim
 | halt x w'=>
   cases x with
   | panic v=>exact h.2
   | _=>exact h.elim
theorem Jk(hd:∀o∈ops,∀c,o.op≠.defer c):∀(l:List Nat)(a:Act)(w:World),wpOps P ops (Xo Q) l a w->wpOpsIn (Fence.wide.inRound l0) n P ops Q l a w
 | [],_,_,h=>h.2
 | i::rest,a,w,h=>by
   unfold wpOps at h;unfold wpOpsIn;cases ho:ops[i]? with
   | none=>rw [ho]at h;exact Jk hd rest _ _ h
   | some o=>
     rw [ho]at h;simp only at h⊢;split at h
     ·rename_i hw;rw [if_pos hw];rcases h with h| ⟨_,h⟩
      ·refine⟨fun _ _=>trivial,?_⟩;rw [show(Fence.wide.inRound l0).round=some l0 from rfl,Oper.semAt_some l0 _ _ (hd o (Array.mem_of_getElem? ho))];exact ZR (Jk hd rest) h
      ·exact(Xo.not h).elim
     ·rename_i hw;rw [if_neg hw];exact⟨fun _ _=>trivial,Jk hd rest _ _ h⟩
def jU(ops:Array Oper):Bool:=ops.all fun o=>match o.op with| .defer _=>false| _=>true
theorem jV(h:jU ops=true):∀o∈ops,∀c,o.op≠.defer c:=fun o ho c e=>by
 have:=Array.all_eq_true_iff_forall_mem.1 h o ho;rw [e]at this;cases this
theorem Vg{S:World->Prop}{id:Nat}{a:Act}{w:World}(hm:P.follows .mixedOrders=true)(hd:jU ops=true)
 (h:wpAnyH P .any ops (Xo Q) S ops.size (Ad3 ops.size false) a {w with drawn:=w.drawn+1}):(Code.region id ops true).wpIn (Fence.wide.inRound l0) n P Q a w:=
 wpIn_region_draw fun t=>by
  simp only [Region.schedule,hm,Bool.true_or,if_true];exact Jk (jV hd) _ _ _ (wpAny_sound ops.size t _ a _ (wpAny_of_held _ _ _ _ h))
theorem Ir{S:World->Prop}{id:Nat}{a:Act}{w:World}(hm:P.follows .mixedOrders=true)(hd:jU ops=true)(hS:S w.drew)
 (h:S w.drew->wpAnyH P .any ops (Xo Q) S ops.size (Ad3 ops.size false) a w.drew):(Code.region id ops true).wpIn (Fence.wide.inRound l0) n P Q a w:=
 Vg hm hd (h hS)
end
def MM(l:List Wr):Bool:=decide (l.length<=16)&&VX l&&l.all ER
theorem Acx{l:List Wr}(h:16<l.length):MM l=false:=by
 unfold MM;rw [decide_eq_false (by omega)];rfl
theorem Acy{l:List Wr}{k:Nat}(hk:k<l.length)(h:ER l[k]=false):MM l=false:=by
 unfold MM;rw [Bool.and_eq_false_iff];exact .inr (by rw [List.all_eq_false];exact⟨_,BM hk,by rw [h];decide⟩)
theorem Acz{l:List Wr}{m:Nat}(hm:m+1<l.length)(h:Op.bytesLess (l[m]'(by omega)).key.toList l[m+1].key.toList=false):MM l=false:=by
 unfold MM;rw [Af2 hm h,Bool.and_false];rfl
theorem fM{l:List Wr}(h:l.length<=16)(h1:∀j(hj:j<l.length),ER l[j]=true)(h2:ZF l l.length):MM l=true:=by
 unfold MM;rw [decide_eq_true h,(VY l).1 h2,Bool.true_and,Bool.true_and,List.all_eq_true];intro x hx;obtain⟨j,hj,rfl⟩:=List.getElem_of_mem hx;exact h1 j hj
theorem Aj2{w:World}{G:Nat->Prop}{v:Value}{l:List Wr}(h:Ju w G v l)(hl:l.length<=100000)(hsz:∀x∈l,x.key.size<=4294967296/\x.text.size<=4294967296):Calls Tryz.prog 91 #[v] w fun e w'=>e= .returned (.bool (MM l))/\Below w.heap.size w w':=by
 obtain⟨A0,c,rfl⟩:=h.slice;have HS:=Aa h;have ax:=Aa hsz;clear h hsz;by_cases h16:16<l.length
 ·have t1:decide ((16:Int)<(l.length:Int))=true:=decide_eq_true (by omega);have HV:Hid (MM l=false):=Aa (Acx h16);clear h16;go_enter Tryz.func91,Tryz.ntmps91
  go_wp2_with fail
  go_ret;exact⟨by rw [HV.out];rfl,Below.refl _ _⟩
 have t1:decide ((16:Int)<(l.length:Int))=false:=decide_eq_false (by omega);go_enter Tryz.func91,Tryz.ntmps91
 go_wp2_with fail
 go_loopw [10](fun i wr=>∃k:Nat,k<=l.length/\i= .int .i64 (k:Nat)/\(∀j(hj:j<l.length),j<k->ER l[j]=true)/\ZF l k/\Below w.heap.size w wr)(fun i _=>l.length- (intOf i).toNat)
 case atStart=>exact⟨0,Nat.zero_le _,rfl,fun j _ h=>absurd h (Nat.not_lt_zero _),fun j _ h=>absurd h (by omega),Below.refl _ _⟩
 case round=>
  obtain⟨k,hk,rfl,aP,hup,hb⟩:=hrel;have HB:=Aa hb;have HRi:=Aa aP;have HUp:=Aa hup;clear aP hup hb;by_cases hlt:k<l.length
  ·obtain⟨b2,off,c2,hv2,_,hbw,_,q0,q1,q2⟩:=(HS.out.below HB.out).at k hlt;simp only [Value.slice.injEq]at hv2;obtain⟨rfl, -,rfl⟩:=hv2;obtain⟨hx1,hx2,hx5⟩:=aJ hlt;have hwk:=lh k (by omega);obtain⟨y,hy⟩:∃y,y=l[k]:=⟨_,rfl⟩;have Ar0:=ax.out y (hy▸BM hlt);have HY:=Aa hy;rw [<-hy]at q0 q1 q2;have HR:=Aa (fun W=>OW y W Ar0.1 Ar0.2);unfold Xe at HR;obtain⟨W2,hW2,hbt,B2⟩:=FB wr 74 [.string y.key,.string y.text,.bool y.gone];obtain⟨z0,z1,z2⟩:=B2.p3;have HBt:=Aa (HB.out.trans (hbt.mono HB.out.size));have HZ:Hid (∀W,Below W2.heap.size W2 W->W.cell? ⟨wr.heap.size,0,none⟩=some (.string y.key)/\W.cell? ⟨wr.heap.size,1,none⟩=some (.string y.text)/\W.cell? ⟨wr.heap.size,2,none⟩=some (.bool y.gone)):=Aa (fun W k=>⟨(B2.below k B2.lt).cell 0,(B2.below k B2.lt).cell 1,(B2.below k B2.lt).cell 2⟩);have HW2:=Aa hW2;clear hW2 B2 hbt hy;cases hr:ER y with
   | false=>
     rw [hr]at HR;have HV:Hid (MM l=false):=Aa (Acy hlt (by rw [<-HY.out];exact hr));clear hr
     go_wp2_with fail
     rw [<-HW2.out];refine wp_region_held_drew (S:=(fun w'=>w'.cell? ⟨wr.heap.size,0,none⟩=some (.string y.key)/\w'.cell? ⟨wr.heap.size,1,none⟩=some (.string y.text)/\w'.cell? ⟨wr.heap.size,2,none⟩=some (.bool y.gone))) (by kernel_rfl) ⟨z0,z1,z2⟩ (fun hHeld=> ?_);refine Ef 0 (.agg #[.string y.key,.string y.text,.bool y.gone]) hHeld (hy:=fun w hSw=>by obtain⟨s0,s1,s2⟩:=hSw;go_simp) ?_
     try simp only [Act.put,Ap,Ag,Ae,Am,Aq]
     refine wpAnyH_ready (rs:=[1]) (by kernel_rfl) (by simp) ?_;refine AllReadyH.cons rfl (fun K hK=> ?_) AllReadyH.nil;go_simp;go_at_call 87;refine(HR.out _).mono ?_;rintro e w3⟨rfl,hb3⟩;have hb4:Below W2.heap.size W2 w3:=(((Dr.drew _).below _).trans hb3);refine hK.out _ _ (HZ.out _ hb4) (fun hHeld=> ?_);clear hK K
     try simp only [Act.put,Ap,Ah,Ag,Ae,Am,Aq]
     refine Ef 2 (.bool true) hHeld ?_;refine Ef 3 (.bool true) hHeld ?_;refine wpAnyH_take (i:=4) (v:=undef) rfl (by kernel_rfl) (by kernel_rfl) (by kernel_rfl) (fun _ _ _ h=>h) (Or.inr ⟨by rfl,rfl⟩) (by assumption) ?_
     try simp only [Act.put,Ap,Ah,Ag,Ae,Am,Aq]
     refine wpAnyH_take (i:=5) (v:=undef) rfl (by kernel_rfl) (by kernel_rfl) (by kernel_rfl) (fun _ _ _ h=>h) (Or.inr ⟨by rfl,rfl⟩) (by assumption) ?_;refine wpAnyH_take (i:=6) (v:=undef) rfl (by kernel_rfl) (by kernel_rfl) (by kernel_rfl) (fun _ _ _ h=>h) (Or.inr ⟨by rfl,rfl⟩) (by assumption) ?_;refine wpAnyH_take (i:=7) (v:=undef) rfl (by kernel_rfl) (by kernel_rfl) (by kernel_rfl) (fun _ _ _ h=>h) (Or.inr ⟨by rfl,rfl⟩) (by assumption) ?_
     try simp only [Act.put,Ap,Ah,Ag,Ae,Am,Aq]
     refine wpAnyH_take (i:=8) (v:=undef) rfl (by kernel_rfl) (by kernel_rfl) (by kernel_rfl) (fun _ _ _ h=>h) (Or.inr ⟨by rfl,rfl⟩) (by assumption) ?_;refine wpAnyH_take (i:=9) (v:=undef) rfl (by kernel_rfl) (by kernel_rfl) (by kernel_rfl) (fun _ _ _ h=>h) (Or.inr ⟨by rfl,rfl⟩) (by assumption) ?_;refine wpAnyH_take (i:=10) (v:=undef) rfl (by kernel_rfl) (by kernel_rfl) (by kernel_rfl) (fun _ _ _ h=>h) (Or.inr ⟨by rfl,rfl⟩) (by assumption) ?_
     try simp only [Act.put,Ap,Ah,Ag,Ae,Am,Aq]
     refine wpAnyH_take (i:=11) (v:=undef) rfl (by kernel_rfl) (by kernel_rfl) (by kernel_rfl) (fun _ _ _ h=>h) (Or.inr ⟨by rfl,rfl⟩) (by assumption) ?_;refine wpAnyH_take (i:=12) (v:=undef) rfl (by kernel_rfl) (by kernel_rfl) (by kernel_rfl) (fun _ _ _ h=>h) (Or.inr ⟨by rfl,rfl⟩) (by assumption) ?_;refine wpAnyH_take (i:=13) (v:=undef) rfl (by kernel_rfl) (by kernel_rfl) (by kernel_rfl) (fun _ _ _ h=>h) (Or.inr ⟨by rfl,rfl⟩) (by assumption) ?_
     try simp only [Act.put,Ap,Ah,Ag,Ae,Am,Aq]
     refine wpAnyH_take (i:=14) (v:=undef) rfl (by kernel_rfl) (by kernel_rfl) (by kernel_rfl) (fun _ _ _ h=>h) (Or.inr ⟨by rfl,rfl⟩) (by assumption) ?_;refine wpAnyH_take (i:=15) (v:=undef) rfl (by kernel_rfl) (by kernel_rfl) (by kernel_rfl) (fun _ _ _ h=>h) (Or.inr ⟨by rfl,rfl⟩) (by assumption) ?_;refine wpAnyH_take (i:=16) (v:=undef) rfl (by kernel_rfl) (by kernel_rfl) (by kernel_rfl) (fun _ _ _ h=>h) (Or.inr ⟨by rfl,rfl⟩) (by assumption) ?_
     try simp only [Act.put,Ap,Ah,Ag,Ae,Am,Aq]
     refine Ef 17 (.bool true) hHeld ?_
     try simp only [Act.put,Ap,Ah,Ag,Ae,Am,Aq]
     refine wpAnyH_done (by kernel_rfl) ?_ _;have HB4:=Aa (HBt.out.trans (hb4.mono HBt.out.size));clear hb3 hb4 z0 z1 z2 hHeld
     go_wp2_with fail
     go_ret;exact⟨by rw [HV.out];rfl,HB4.out⟩
   | true=>
     rw [hr]at HR;have HRn:Hid (∀j(hj:j<l.length),j<k+1->ER l[j]=true):=Aa (fun j hj hjk=>by
      by_cases e:j=k
      ·subst e;rw [<-HY.out];exact hr
      ·exact HRi.out j hj (by omega))
     clear hr;by_cases hk0:k=0
     ·have HUn:Hid (ZF l (k+1)):=Aa (fun j hj hjk=>absurd hjk (by omega));have hx6:decide ((0:Int)<(k:Int))=false:=decide_eq_false (by omega);have hx7:decide (0<k)=false:=decide_eq_false (by omega);clear hk0
      go_wp2_with fail
      rw [<-HW2.out];refine wp_region_held_drew (S:=(fun w'=>w'.cell? ⟨wr.heap.size,0,none⟩=some (.string y.key)/\w'.cell? ⟨wr.heap.size,1,none⟩=some (.string y.text)/\w'.cell? ⟨wr.heap.size,2,none⟩=some (.bool y.gone))) (by kernel_rfl) ⟨z0,z1,z2⟩ (fun hHeld=> ?_);refine Ef 0 (.agg #[.string y.key,.string y.text,.bool y.gone]) hHeld (hy:=fun w hSw=>by obtain⟨s0,s1,s2⟩:=hSw;go_simp) ?_
      try simp only [Act.put,Ap,Ag,Ae,Am,Aq]
      refine wpAnyH_ready (rs:=[1]) (by kernel_rfl) (by simp) ?_;refine AllReadyH.cons rfl (fun K hK=> ?_) AllReadyH.nil;go_simp;go_at_call 87;refine(HR.out _).mono ?_;rintro e w3⟨rfl,hb3⟩;have hb4:Below W2.heap.size W2 w3:=(((Dr.drew _).below _).trans hb3);refine hK.out _ _ (HZ.out _ hb4) (fun hHeld=> ?_);clear hK K
      try simp only [Act.put,Ap,Ah,Ag,Ae,Am,Aq]
      refine Ef 2 (.bool false) hHeld ?_;refine Ef 3 (.bool false) hHeld ?_;refine Ef 4 (.int .i64 (k:Int)) hHeld ?_
      try simp only [Act.put,Ap,Ah,Ag,Ae,Am,Aq]
      refine Ef 5 (.bool false) hHeld ?_;refine Ef 6 (.bool false) hHeld ?_;refine wpAnyH_take (i:=7) (v:=undef) rfl (by kernel_rfl) (by kernel_rfl) (by kernel_rfl) (fun _ _ _ h=>h) (Or.inr ⟨by rfl,rfl⟩) (by assumption) ?_
      try simp only [Act.put,Ap,Ah,Ag,Ae,Am,Aq]
      refine wpAnyH_take (i:=8) (v:=undef) rfl (by kernel_rfl) (by kernel_rfl) (by kernel_rfl) (fun _ _ _ h=>h) (Or.inr ⟨by rfl,rfl⟩) (by assumption) ?_;refine wpAnyH_take (i:=9) (v:=undef) rfl (by kernel_rfl) (by kernel_rfl) (by kernel_rfl) (fun _ _ _ h=>h) (Or.inr ⟨by rfl,rfl⟩) (by assumption) ?_;refine wpAnyH_take (i:=10) (v:=undef) rfl (by kernel_rfl) (by kernel_rfl) (by kernel_rfl) (fun _ _ _ h=>h) (Or.inr ⟨by rfl,rfl⟩) (by assumption) ?_
      try simp only [Act.put,Ap,Ah,Ag,Ae,Am,Aq]
      refine wpAnyH_take (i:=11) (v:=undef) rfl (by kernel_rfl) (by kernel_rfl) (by kernel_rfl) (fun _ _ _ h=>h) (Or.inr ⟨by rfl,rfl⟩) (by assumption) ?_;refine wpAnyH_take (i:=12) (v:=undef) rfl (by kernel_rfl) (by kernel_rfl) (by kernel_rfl) (fun _ _ _ h=>h) (Or.inr ⟨by rfl,rfl⟩) (by assumption) ?_;refine wpAnyH_take (i:=13) (v:=undef) rfl (by kernel_rfl) (by kernel_rfl) (by kernel_rfl) (fun _ _ _ h=>h) (Or.inr ⟨by rfl,rfl⟩) (by assumption) ?_
      try simp only [Act.put,Ap,Ah,Ag,Ae,Am,Aq]
      refine wpAnyH_take (i:=14) (v:=undef) rfl (by kernel_rfl) (by kernel_rfl) (by kernel_rfl) (fun _ _ _ h=>h) (Or.inr ⟨by rfl,rfl⟩) (by assumption) ?_;refine wpAnyH_take (i:=15) (v:=undef) rfl (by kernel_rfl) (by kernel_rfl) (by kernel_rfl) (fun _ _ _ h=>h) (Or.inr ⟨by rfl,rfl⟩) (by assumption) ?_;refine Ef 16 (.bool false) hHeld ?_
      try simp only [Act.put,Ap,Ah,Ag,Ae,Am,Aq]
      refine Ef 17 (.bool false) hHeld ?_
      try simp only [Act.put,Ap,Ah,Ag,Ae,Am,Aq]
      refine wpAnyH_done (by kernel_rfl) ?_ _;have HB4:=Aa (HBt.out.trans (hb4.mono HBt.out.size));clear hb3 hb4 z0 z1 z2 hHeld
      go_wp2_with fail
      go_roundw
      case rel=>exact⟨k+1,by omega,by go_num,HRn.out,HUn.out,HB4.out⟩
      case measure=>simp [intOf];omega
     ·obtain⟨m,hkm⟩:∃m,k=m+1:=⟨k-1,by omega⟩;have HKm:=Aa hkm;have hml:m<l.length:=by omega
      obtain⟨b3,Apt,c3,hv3,_,hbw3,_,p0,_,_⟩:=(HS.out.below HB.out).at m hml;simp only [Value.slice.injEq,Option.some.injEq,Addr.mk.injEq,true_and,and_true]at hv3;obtain⟨⟨rfl,rfl⟩,rfl⟩:=hv3;obtain⟨z,hz⟩:∃z,z=l[m]'hml:=⟨_,rfl⟩;rw [<-hz]at p0;have hpw:W2.cell? ⟨b2,off+m*3,none⟩=some (.string z.key):=by rw [HW2.out];exact(Bz (w:=wr) (by first|exact heap_alloc_old _ _ hbw|exact heap_alloc_old _ _ _ hbw)).trans p0
      have HPv:Hid (∀W,Below W2.heap.size W2 W->W.cell? ⟨b2,off+m*3,none⟩=some (.string z.key)):=Aa (fun W k=>(Bz (w:=W2) (k.block _ (World.block_lt_of_cell? W2 _ hpw))).trans hpw);have VN:Hid (Op.bytesLess z.key.toList y.key.toList=true->ZF l (k+1)):=Aa (fun h j hj hjk=>by
       have Anh:=HKm.out;subst Anh;by_cases e:j=m
       ·subst e;rw [<-hz,<-HY.out];exact h
       ·exact HUp.out j hj (by omega))
      have HLn:Hid (Op.bytesLess z.key.toList y.key.toList=false->MM l=false):=Aa (fun h=>by
       have Anh:=HKm.out;subst Anh;exact Acz hlt (by rw [<-hz,<-HY.out];exact h))
      have hx6:decide ((0:Int)<(k:Int))=true:=decide_eq_true (by omega);have hx7:decide (0<k)=true:=decide_eq_true (by omega);have hwm:IntKind.i64.wrap ((k:Int) -1)=(m:Int):=(IntWalk.i64_in _ (by omega)).trans (by omega);have Au1:(m:Int)<(l.length:Int):=by omega
      have Awn:decide ((m:Int)<(l.length:Int))=true:=decide_eq_true Au1;have Awo:decide (m<l.length)=true:=decide_eq_true (by omega);clear hkm hk0 hz;cases hls:Op.bytesLess z.key.toList y.key.toList with
      | true=>
        have HUn:=Aa (VN.out hls)
        go_wp2_with fail
        rw [<-HW2.out];refine wp_region_held_drew (S:=(fun w'=>w'.cell? ⟨wr.heap.size,0,none⟩=some (.string y.key)/\w'.cell? ⟨wr.heap.size,1,none⟩=some (.string y.text)/\w'.cell? ⟨wr.heap.size,2,none⟩=some (.bool y.gone)/\w'.cell? ⟨b2,off+m*3,none⟩=some (.string z.key))) (by kernel_rfl) ⟨z0,z1,z2,hpw⟩ (fun hHeld=> ?_);refine Ef 0 (.agg #[.string y.key,.string y.text,.bool y.gone]) hHeld (hy:=fun w hSw=>by obtain⟨s0,s1,s2,s3⟩:=hSw;go_simp) ?_
        try simp only [Act.put,Ap,Ag,Ae,Am,Aq]
        refine wpAnyH_ready (rs:=[1]) (by kernel_rfl) (by simp) ?_;refine AllReadyH.cons rfl (fun K hK=> ?_) AllReadyH.nil;go_simp;go_at_call 87;refine(HR.out _).mono ?_;rintro e w3⟨rfl,hb3⟩;have hb4:Below W2.heap.size W2 w3:=(((Dr.drew _).below _).trans hb3);refine hK.out _ _ (⟨(HZ.out _ hb4).1,(HZ.out _ hb4).2.1,(HZ.out _ hb4).2.2,HPv.out _ hb4⟩) (fun hHeld=> ?_);clear hK K
        try simp only [Act.put,Ap,Ah,Ag,Ae,Am,Aq]
        refine Ef 2 (.bool false) hHeld ?_;refine Ef 3 (.bool false) hHeld ?_;refine Ef 4 (.int .i64 (k:Int)) hHeld ?_
        try simp only [Act.put,Ap,Ah,Ag,Ae,Am,Aq]
        refine Ef 5 (.bool true) hHeld ?_;refine Ef 6 (.bool true) hHeld ?_;refine Ef 7 (.slice (some ⟨b2,off,none⟩) l.length c) hHeld ?_
        try simp only [Act.put,Ap,Ah,Ag,Ae,Am,Aq]
        refine Ef 8 (.int .i64 (k:Int)) hHeld ?_;refine Ef 9 (.int .i64 (m:Int)) hHeld ?_;refine Ef 10 (.pointer (some ⟨b2,off+m*3,none⟩)) hHeld ?_
        try simp only [Act.put,Ap,Ah,Ag,Ae,Am,Aq]
        refine Ef 11 (.pointer (some ⟨b2,off+m*3,none⟩)) hHeld ?_;refine Ef 12 (.string z.key) hHeld (hy:=fun w hSw=>by obtain⟨s0,s1,s2,s3⟩:=hSw;go_simp) ?_;refine Ef 13 (Aw wr.heap.size) hHeld ?_
        try simp only [Act.put,Ap,Ah,Ag,Ae,Am,Aq]
        refine Ef 14 (.string y.key) hHeld (hy:=fun w hSw=>by obtain⟨s0,s1,s2,s3⟩:=hSw;go_simp) ?_;refine Ef 15 (.bool false) hHeld ?_;refine Ef 16 (.bool false) hHeld ?_
        try simp only [Act.put,Ap,Ah,Ag,Ae,Am,Aq]
        refine Ef 17 (.bool false) hHeld ?_
        try simp only [Act.put,Ap,Ah,Ag,Ae,Am,Aq]
        refine wpAnyH_done (by kernel_rfl) ?_ _;have HB4:=Aa (HBt.out.trans (hb4.mono HBt.out.size));clear hb3 hb4 z0 z1 z2 hHeld
        go_wp2_with fail
        go_roundw
        case rel=>exact⟨k+1,by omega,by go_num,HRn.out,HUn.out,HB4.out⟩
        case measure=>simp [intOf];omega
      | false=>
        have HV:=Aa (HLn.out hls)
        go_wp2_with fail
        rw [<-HW2.out];refine wp_region_held_drew (S:=(fun w'=>w'.cell? ⟨wr.heap.size,0,none⟩=some (.string y.key)/\w'.cell? ⟨wr.heap.size,1,none⟩=some (.string y.text)/\w'.cell? ⟨wr.heap.size,2,none⟩=some (.bool y.gone)/\w'.cell? ⟨b2,off+m*3,none⟩=some (.string z.key))) (by kernel_rfl) ⟨z0,z1,z2,hpw⟩ (fun hHeld=> ?_);refine Ef 0 (.agg #[.string y.key,.string y.text,.bool y.gone]) hHeld (hy:=fun w hSw=>by obtain⟨s0,s1,s2,s3⟩:=hSw;go_simp) ?_
        try simp only [Act.put,Ap,Ag,Ae,Am,Aq]
        refine wpAnyH_ready (rs:=[1]) (by kernel_rfl) (by simp) ?_;refine AllReadyH.cons rfl (fun K hK=> ?_) AllReadyH.nil;go_simp;go_at_call 87;refine(HR.out _).mono ?_;rintro e w3⟨rfl,hb3⟩;have hb4:Below W2.heap.size W2 w3:=(((Dr.drew _).below _).trans hb3);refine hK.out _ _ (⟨(HZ.out _ hb4).1,(HZ.out _ hb4).2.1,(HZ.out _ hb4).2.2,HPv.out _ hb4⟩) (fun hHeld=> ?_);clear hK K
        try simp only [Act.put,Ap,Ah,Ag,Ae,Am,Aq]
        refine Ef 2 (.bool false) hHeld ?_;refine Ef 3 (.bool false) hHeld ?_;refine Ef 4 (.int .i64 (k:Int)) hHeld ?_
        try simp only [Act.put,Ap,Ah,Ag,Ae,Am,Aq]
        refine Ef 5 (.bool true) hHeld ?_;refine Ef 6 (.bool true) hHeld ?_;refine Ef 7 (.slice (some ⟨b2,off,none⟩) l.length c) hHeld ?_
        try simp only [Act.put,Ap,Ah,Ag,Ae,Am,Aq]
        refine Ef 8 (.int .i64 (k:Int)) hHeld ?_;refine Ef 9 (.int .i64 (m:Int)) hHeld ?_;refine Ef 10 (.pointer (some ⟨b2,off+m*3,none⟩)) hHeld ?_
        try simp only [Act.put,Ap,Ah,Ag,Ae,Am,Aq]
        refine Ef 11 (.pointer (some ⟨b2,off+m*3,none⟩)) hHeld ?_;refine Ef 12 (.string z.key) hHeld (hy:=fun w hSw=>by obtain⟨s0,s1,s2,s3⟩:=hSw;go_simp) ?_;refine Ef 13 (Aw wr.heap.size) hHeld ?_
        try simp only [Act.put,Ap,Ah,Ag,Ae,Am,Aq]
        refine Ef 14 (.string y.key) hHeld (hy:=fun w hSw=>by obtain⟨s0,s1,s2,s3⟩:=hSw;go_simp) ?_;refine Ef 15 (.bool true) hHeld ?_;refine Ef 16 (.bool true) hHeld ?_
        try simp only [Act.put,Ap,Ah,Ag,Ae,Am,Aq]
        refine Ef 17 (.bool true) hHeld ?_
        try simp only [Act.put,Ap,Ah,Ag,Ae,Am,Aq]
        refine wpAnyH_done (by kernel_rfl) ?_ _;have HB4:=Aa (HBt.out.trans (hb4.mono HBt.out.size));clear hb3 hb4 z0 z1 z2 hHeld
        go_wp2_with fail
        go_ret;exact⟨by rw [HV.out];rfl,HB4.out⟩
  ·have hkn:k=l.length:=by omega
   obtain⟨hx1,hx5⟩:=yj hlt;have HV:Hid (MM l=true):=Aa (fM (by omega) (fun j hj=>HRi.out j hj (by omega)) (fun j hj hjk=>HUp.out j hj (by omega)));clear hkn
   go_wp2_with fail
   go_ret;exact⟨by rw [HV.out];rfl,HB.out⟩
section
variable{len:Mode}{w w':World}{x d p L:Nat}{s:St}{F:Nat->Prop}
def RY(slot stamp:UInt64)(l:List Wr):Bool:=decide (slot.toNat<stamp.toNat)&&decide (stamp.toNat<=60000)&&MM l
theorem jW(h:Ej len w d p L s F){G:Nat->Prop}{v:Value}{l:List Wr}(hv:Ju w G v l)(hl:l.length<=100000)(hsz:∀x∈l,x.key.size<=4294967296/\x.text.size<=4294967296)(stamp:UInt64):
 Calls Tryz.prog 45 #[Aw d,Aw p,Aw x,.int .u64 (stamp.toNat:Int),v] w fun e w'=>Below w.heap.size w w'/\
  (RY (s.ws 8) stamp l=true->∃jb vs,e= .returned (.tuple #[Aw jb,.int .i64 0])/\
   w.heap.size<=jb/\CG w' jb 187 (DI x d p stamp vs (.slice none 0 0) false 0)/\(∀G:Nat->Prop,(∀b,w.heap.size<=b->b<jb->¬G b)->Ju w' G vs l))/\
  (RY (s.ws 8) stamp l=false->e= .returned (.tuple #[.pointer none,.int .i64 2])):=by
 have hL:=h.pos.1;have t0:(((L*64:Nat):Int)==0)=false:=by rw [beq_eq_false_iff_ne];omega
 have HS:=Aa h.size;obtain⟨sz,hsz'⟩:∃sz,L*64=sz:=⟨_,rfl⟩;rw [hsz']at t0 HS;have hL2:=h.pos.2.2.1.fits;have hL3:=h.pos.2.2.1.MK;have HL:=Aa (h.load 8 (by omega));rw [show((8*8:Nat):Int)=64 from rfl]at HL;obtain⟨A0,c0,rfl⟩:=hv.slice;have HF:=Aa (Aj2 hv hl hsz);have HV:=Aa hv;have HLl:=Aa hl;clear h hv hsz hsz' hL hL2 hL3;by_cases h1:stamp.toNat<=(s.ws 8).toNat
 ·have t1:decide ((stamp.toNat:Int)<=((s.ws 8).toNat:Int))=true:=decide_eq_true (by omega);have t2:decide (stamp.toNat<=(s.ws 8).toNat)=true:=decide_eq_true h1;have HN:Hid (RY (s.ws 8) stamp l=false):=Aa (by unfold RY;rw [decide_eq_false (by omega)];rfl);clear h1;go_enter Tryz.func45,Tryz.ntmps45
  go_wp2_with fail
  refine HS.out.mono ?_;rintro e w1⟨rfl,rfl⟩
  go_wp2_with fail
  refine HL.out.mono ?_;rintro e w1⟨rfl,rfl⟩
  go_wp2_with fail
  go_ret2;exact⟨Below.refl _ _,fun h=>absurd h (by rw [HN.out];decide),fun _=>rfl⟩
 have t1:decide ((stamp.toNat:Int)<=((s.ws 8).toNat:Int))=false:=decide_eq_false (by omega);have t2:decide (stamp.toNat<=(s.ws 8).toNat)=false:=decide_eq_false (by omega);by_cases h2:60000<stamp.toNat
 ·have t3:decide ((60000:Int)<(stamp.toNat:Int))=true:=decide_eq_true (by omega);have t4:decide (60000<stamp.toNat)=true:=decide_eq_true h2;have HN:Hid (RY (s.ws 8) stamp l=false):=Aa (by unfold RY;rw [show decide (stamp.toNat<=60000)=false from decide_eq_false (by omega),Bool.and_false];rfl);clear h1 h2;go_enter Tryz.func45,Tryz.ntmps45
  go_wp2_with fail
  refine HS.out.mono ?_;rintro e w1⟨rfl,rfl⟩
  go_wp2_with fail
  refine HL.out.mono ?_;rintro e w1⟨rfl,rfl⟩
  go_wp2_with fail
  go_ret2;exact⟨Below.refl _ _,fun h=>absurd h (by rw [HN.out];decide),fun _=>rfl⟩
 have t3:decide ((60000:Int)<(stamp.toNat:Int))=false:=decide_eq_false (by omega);have t4:decide (60000<stamp.toNat)=false:=decide_eq_false (by omega);have hnb:RY (s.ws 8) stamp l=MM l:=by unfold RY;rw [decide_eq_true (by omega),decide_eq_true (by omega)];rfl
 cases hf:MM l with
 | false=>
   rw [hf]at HF hnb;have HN:=Aa hnb;clear h1 h2 hnb hf;go_enter Tryz.func45,Tryz.ntmps45
   go_wp2_with fail
   refine HS.out.mono ?_;rintro e w1⟨rfl,rfl⟩
   go_wp2_with fail
   refine HL.out.mono ?_;rintro e w1⟨rfl,rfl⟩
   go_wp2_with fail
   refine HF.out.mono ?_;rintro e w1⟨rfl,hb1⟩;have HB1:=Aa hb1;clear hb1 HS HL HF
   go_wp2_with fail
   go_ret2;exact⟨HB1.out,fun h=>absurd h (by rw [HN.out];decide),fun _=>rfl⟩
 | true=>
   rw [hf]at HF hnb;have HN:=Aa hnb;clear h1 h2 hnb hf;go_enter Tryz.func45,Tryz.ntmps45
   go_wp2_with fail
   refine HS.out.mono ?_;rintro e w1⟨rfl,rfl⟩
   go_wp2_with fail
   refine HL.out.mono ?_;rintro e w1⟨rfl,rfl⟩
   go_wp2_with fail
   refine HF.out.mono ?_;rintro e w1⟨rfl,hb1⟩;have HC:=Aa (OX (HV.out.below hb1) HLl.out);have HB1:=Aa hb1;clear hb1 HS HL HF
   go_wp2_with fail
   refine HC.out.mono ?_;rintro e w2⟨u,rfl,hO,hB⟩;obtain⟨A5,c5,hu5,_,_⟩:=DN hO;subst hu5;have HO:=Aa hO;have HB:=Aa (HB1.out.trans (hB.mono HB1.out.size));clear hO hB HC
   go_wp2_with fail
   go_ret2;obtain⟨W,hW⟩:∃W,W=w2.alloc (.cells (DI x d p stamp (.slice A5 l.length c5) (.slice none 0 0) false 0).toArray 187):=⟨_,rfl⟩;have hbW:Below w2.heap.size w2 W:=hW▸(Below.refl _ _).alloc (Nat.le_refl _) _;have hJ:CG W w2.heap.size 187 (DI x d p stamp (.slice A5 l.length c5) (.slice none 0 0) false 0):=hW▸heap_alloc_new _ _;refine⟨by rw [hW]at hbW;exact HB.out.trans (hbW.mono HB.out.size),fun _=>⟨w2.heap.size,.slice A5 l.length c5,rfl,HB.out.size,by rw [hW]at hJ;exact hJ,fun G hG=> ?_⟩,fun h=>absurd h (by rw [HN.out];decide)⟩;have hs:Ju w2 G (.slice A5 l.length c5) l:=og HO.out rfl (fun b hb hlt=>hG b (Nat.le_trans HB1.out.size hb) hlt);rw [hW]at hbW;exact hs.below hbW
end
