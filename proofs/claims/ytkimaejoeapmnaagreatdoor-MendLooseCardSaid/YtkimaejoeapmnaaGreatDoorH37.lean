import Derived.OrdersIn
import Derived.RangeFuncCalls
import Derived.Test.YtkimaejoeapmnaaGreatDoorH28
import Derived.Test.YtkimaejoeapmnaaGreatDoorH35
import Derived.Test.YtkimaejoeapmnaaGreatDoorH36
set_option linter.defProp false
set_option maxHeartbeats 32000000
set_option maxRecDepth 100000
open Go.Lib renaming hid->Aa
open UInt64 renaming toNat_inj->Ec
open Array renaming replicate->Afe
open List renaming getElem_mem->BI,getElem_toArray->Ap,getElem_cons_zero->Ag,setIfInBounds_toArray->Ae,set_cons_zero->Aj,set_cons_succ->Aq,getElem_cons_succ->Ah
open Go.World renaming cell?_of_block->BA
namespace Go.Proofs.YtkimaejoeapmnaaGreatDoor
open Go.RowKit
open Go.Proofs.Tryz
def Alf{w:World}{x d p L:Nat}{s:St}{F:Nat->Prop}(h:Ix w x d p L s F){jb:Nat}{stamp:UInt64}{vs vd:Value}{en:Int}(hj:Nl w jb x d p stamp vs vd false en F)(key:ByteArray)(hk:key.size<=1000)(v:UInt64):
 Calls prog 143 #[Az jb,.string key,.int .u64 (v.toNat:Int)] w λe w'=>e= .returned (.int .i64 (J4 s key.data.toList v).2)/\∃F',Ix w' x d p L (J4 s key.data.toList v).1 F'/\AP F F' w w':=by
 have j2:=hj.box.cell 2;unfold DN at j2;simp only [List.getElem?_cons_zero,List.getElem?_cons_succ]at j2;by_cases hv:v=0
 ·have HC:=Aa (Aa5 h key hk);have HP:Hid (J4 s key.data.toList v=((Ug s key.data.toList).1,(Ug s key.data.toList).2.2)):=Aa (by unfold J4;rw [if_pos hv]);subst hv;rw [show((0:UInt64).toNat:Int)=0 from rfl];clear h hj;go_enter func143,ntmps143
  go_wp2_with fail
  refine HC.out.mono ?_;rintro e w1⟨rfl,F1,hx1,hm1⟩;have HX:=Aa hx1;have HM:=Aa hm1;clear HC hx1 hm1
  go_wp2_with fail
  go_ret;exact⟨by rw [HP.out];rfl,F1,by rw [HP.out];exact HX.out,HM.out⟩
 ·have HC:=Aa (WT h key hk v);have HP:Hid (J4 s key.data.toList v=KJ s key.data.toList v):=Aa (by unfold J4;rw [if_neg hv]);have t1:((v.toNat:Int)==0)=false:=by rw [beq_eq_false_iff_ne];intro e;exact hv (Ec.1 (by simp;omega))
  have t2:(v.toNat==0)=false:=by rw [beq_eq_false_iff_ne];intro e;exact hv (Ec.1 (by simp;omega))
  clear h hj hv;unfold kW at HC;go_enter func143,ntmps143
  go_wp2_with fail
  refine HC.out.mono ?_;rintro e w1⟨rfl,F1,hx1,hm1⟩;have HX:=Aa hx1;have HM:=Aa hm1;clear HC hx1 hm1
  go_wp2_with fail
  go_ret;exact⟨by rw [HP.out];rfl,F1,by rw [HP.out];exact HX.out,HM.out⟩
section
variable{P:Program}{ops:Array Oper}{Q:Exit->Act->World->Prop}{n l0:Nat}
def XQ(Q:Exit->Act->World->Prop):Exit->Act->World->Prop:=λe a w=>e≠.outgrown/\Q e a w
def XQ.not:¬LetsOut (XQ Q):=λ⟨_,_,h,_⟩=>h rfl
def bD{o:Oper}{a:Act}{K K':Act->World->Prop}(hK:∀a w,K a w->K' a w){r:Result Next}(h:o.upon P a K (XQ Q) r):o.uponIn (Fence.wide.inRound l0) n P a K' Q r:=by
 cases r with
 | ok x w'=>
   cases x with
   | value v=>exact hK _ _ h
   | skip=>exact hK _ _ h
   | defer d=>exact hK _ _ h
   | enter f args=>
     refine⟨λh=>(by cases h),CallsIn.inRound l0 ((callsIn_wide.2 (show Calls P f args w' _ from h)).mono ?_)⟩;intro e w'' he;cases e with
     | returned v=>exact hK _ _ he
     | panicked c=>exact he.2
     | outgrown=>exact(XQ.not he).elim
   | row row args=>exact⟨λh=>(by cases h),λc cs _=>let⟨v,w'',q,s⟩:=(show Rows P row args w' _ from h) c cs;⟨v,w'',hK _ _ q,stepsIn_wide.2 s⟩⟩
   | _=>exact h.elim
 | halt x w'=>
   cases x with
   | panic v=>exact h.2
   | _=>exact h.elim
def Ju(hd:∀o∈ops,∀c,o.op≠.defer c):∀(l:List Nat)(a:Act)(w:World),wpOps P ops (XQ Q) l a w->wpOpsIn (Fence.wide.inRound l0) n P ops Q l a w
 | [],_,_,h=>h.2
 | i::rest,a,w,h=>by
   unfold wpOps at h;unfold wpOpsIn;cases ho:ops[i]? with
   | none=>rw [ho]at h;exact Ju hd rest _ _ h
   | some o=>
     rw [ho]at h;simp only at h⊢;split at h
     ·rename_i hw;rw [if_pos hw];rcases h with h| ⟨_,h⟩
      ·refine⟨λ_ _=>trivial,?_⟩;rw [show(Fence.wide.inRound l0).round=some l0 from rfl,Oper.semAt_some l0 _ _ (hd o (Array.mem_of_getElem? ho))];exact bD (Ju hd rest) h
      ·exact(XQ.not h).elim
     ·rename_i hw;rw [if_neg hw];exact⟨λ_ _=>trivial,Ju hd rest _ _ h⟩
def lT(ops:Array Oper):Bool:=ops.all λo=>match o.op with| .defer _=>false| _=>true
def lU(h:lT ops=true):∀o∈ops,∀c,o.op≠.defer c:=λo ho c e=>by
 have:=Array.all_eq_true_iff_forall_mem.1 h o ho;rw [e]at this;cases this
def VK{S:World->Prop}{id:Nat}{a:Act}{w:World}(hm:P.follows .mixedOrders=true)(hd:lT ops=true)
 (h:wpAnyH P .any ops (XQ Q) S ops.size (Afe ops.size false) a {w with drawn:=w.drawn+1}):(Code.region id ops true).wpIn (Fence.wide.inRound l0) n P Q a w:=
 wpIn_region_draw λt=>by
  simp only [Region.schedule,hm,Bool.true_or,if_true];exact Ju (lU hd) _ _ _ (wpAny_sound ops.size t _ a _ (wpAny_of_held _ _ _ _ h))
def I9{S:World->Prop}{id:Nat}{a:Act}{w:World}(hm:P.follows .mixedOrders=true)(hd:lT ops=true)(hS:S w.drew)
 (h:S w.drew->wpAnyH P .any ops (XQ Q) S ops.size (Afe ops.size false) a w.drew):(Code.region id ops true).wpIn (Fence.wide.inRound l0) n P Q a w:=
 VK hm hd (h hS)
end
def Nw(l:List Wr):Bool:=decide (l.length<=16)&&WX l&&l.all Dz
def Ad5{l:List Wr}(h:16<l.length):Nw l=false:=by
 unfold Nw;rw [decide_eq_false O];rfl
def Ad6{l:List Wr}{k:Nat}(hk:k<l.length)(h:Dz l[k]=false):Nw l=false:=by
 unfold Nw;rw [Bool.and_eq_false_iff];exact .inr (by rw [List.all_eq_false];exact⟨_,BI hk,by rw [h];decide⟩)
def Ad7{l:List Wr}{m:Nat}(hm:m+1<l.length)(h:Op.bytesLess (l[m]' O).key.toList l[m+1].key.toList=false):Nw l=false:=by
 unfold Nw;rw [Ahd hm h,Bool.and_false];rfl
def iW{l:List Wr}(h:l.length<=16)(h1:∀j(hj:j<l.length),Dz l[j]=true)(h2:aS l l.length):Nw l=true:=by
 unfold Nw;rw [decide_eq_true h,(WY l).1 h2,Bool.true_and,Bool.true_and,List.all_eq_true];intro x hx;obtain⟨j,hj,rfl⟩:=List.getElem_of_mem hx;exact h1 j hj
def Alg{w:World}{G:Nat->Prop}{v:Value}{l:List Wr}(h:I4 w G v l)(hl:l.length<=100000)(hsz:∀x∈l,x.key.size<=4294967296/\x.text.size<=4294967296):Calls prog 91 #[v] w λe w'=>e= .returned (.bool (Nw l))/\η w w':=by
 obtain⟨A0,c,rfl⟩:=h.slice;have HS:=Aa h;have mZ:=Aa hsz;clear h hsz;by_cases h16:16<l.length
 ·have t1:decide ((16:Int)<(l.length:Int))=true:=decide_eq_true O;have HV:Hid (Nw l=false):=Aa (Ad5 h16);clear h16;go_enter func91,ntmps91
  go_wp2_with fail
  go_ret;exact⟨by rw [HV.out];rfl,Below.refl _ _⟩
 have t1:decide ((16:Int)<(l.length:Int))=false:=decide_eq_false O;go_enter func91,ntmps91
 go_wp2_with fail
 go_loopw [10](λi wr=>∃k:Nat,k<=l.length/\i= .int .i64 (k:Nat)/\(∀j(hj:j<l.length),j<k->Dz l[j]=true)/\aS l k/\η w wr)(λi _=>l.length- (intOf i).toNat)
 case atStart=>exact⟨0,Nat.zero_le _,rfl,λj _ h=>absurd h (Nat.not_lt_zero _),λj _ h=>absurd h O,Below.refl _ _⟩
 case round=>
  obtain⟨k,hk,rfl,dD,hup,hb⟩:=hrel;have HB:=Aa hb;have HRi:=Aa dD;have HUp:=Aa hup;clear dD hup hb;by_cases hlt:k<l.length
  ·obtain⟨b2,off,c2,hv2,_,hbw,_,q0,q1,q2⟩:=(HS.out.below HB.out).at k hlt;simp only [Value.slice.injEq]at hv2;obtain⟨rfl, -,rfl⟩:=hv2;obtain⟨hx1,hx2,hx5⟩:=Yg hlt;have hwk:=eX k O;obtain⟨y,hy⟩:∃y,y=l[k]:=⟨_,rfl⟩;have Atn:=mZ.out y (hy▸BI hlt);have HY:=Aa hy;rw [<-hy]at q0 q1 q2;have HR:=Aa (λW=>PE y W Atn.1 Atn.2);unfold U1 at HR;obtain⟨W2,hW2,hbt,B2⟩:=EZ wr 74 [.string y.key,.string y.text,.bool y.gone];obtain⟨z0,z1,z2⟩:=B2.p3;have HBt:=Aa (τ HB.out hbt);have HZ:Hid (∀W,η W2 W->W.cell? (Φ wr.heap.size)=some (.string y.key)/\W.cell? (Δ wr.heap.size 1)=some (.string y.text)/\W.cell? (Δ wr.heap.size 2)=some (.bool y.gone)):=Aa (λW k=>⟨(B2.ξ k).cell 0,(B2.ξ k).cell 1,(B2.ξ k).cell 2⟩);have HW2:=Aa hW2;clear hW2 B2 hbt hy;cases hr:Dz y with
   | false=>
     rw [hr]at HR;have HV:Hid (Nw l=false):=Aa (Ad6 hlt (by rw [<-HY.out];exact hr));clear hr
     go_wp2_with fail
     rw [<-HW2.out];refine wp_region_held_drew (S:=(λw'=>w'.cell? (Φ wr.heap.size)=some (.string y.key)/\w'.cell? (Δ wr.heap.size 1)=some (.string y.text)/\w'.cell? (Δ wr.heap.size 2)=some (.bool y.gone))) Γ ⟨z0,z1,z2⟩ (λhHeld=> ?_);refine Eo 0 (.agg #[.string y.key,.string y.text,.bool y.gone]) hHeld (hy:=λw hSw=>by obtain⟨s0,s1,s2⟩:=hSw;go_simp) ?_
     try simp only [Act.put,Ap,Ag,Ae,Aj,Aq]
     refine wpAnyH_ready (rs:=[1]) Γ Θ ?_;refine AllReadyH.cons rfl (λK hK=> ?_) AllReadyH.nil;go_simp;go_at_call 87;refine(HR.out _).mono ?_;rintro e w3⟨rfl,hb3⟩;have hb4:η W2 w3:=(((Dr.drew _).below _).trans hb3);refine hK.out _ _ (HZ.out _ hb4) (λhHeld=> ?_);clear hK K
     try simp only [Act.put,Ap,Ah,Ag,Ae,Aj,Aq]
     refine Eo 2 (.bool true) hHeld ?_;refine Eo 3 (.bool true) hHeld ?_;refine wpAnyH_take (i:=4) (v:=undef) rfl Γ Γ Γ (λ_ _ _ h=>h) (Or.inr ⟨by rfl,rfl⟩) (by assumption) ?_
     try simp only [Act.put,Ap,Ah,Ag,Ae,Aj,Aq]
     refine wpAnyH_take (i:=5) (v:=undef) rfl Γ Γ Γ (λ_ _ _ h=>h) (Or.inr ⟨by rfl,rfl⟩) (by assumption) ?_;refine wpAnyH_take (i:=6) (v:=undef) rfl Γ Γ Γ (λ_ _ _ h=>h) (Or.inr ⟨by rfl,rfl⟩) (by assumption) ?_;refine wpAnyH_take (i:=7) (v:=undef) rfl Γ Γ Γ (λ_ _ _ h=>h) (Or.inr ⟨by rfl,rfl⟩) (by assumption) ?_
     try simp only [Act.put,Ap,Ah,Ag,Ae,Aj,Aq]
     refine wpAnyH_take (i:=8) (v:=undef) rfl Γ Γ Γ (λ_ _ _ h=>h) (Or.inr ⟨by rfl,rfl⟩) (by assumption) ?_;refine wpAnyH_take (i:=9) (v:=undef) rfl Γ Γ Γ (λ_ _ _ h=>h) (Or.inr ⟨by rfl,rfl⟩) (by assumption) ?_;refine wpAnyH_take (i:=10) (v:=undef) rfl Γ Γ Γ (λ_ _ _ h=>h) (Or.inr ⟨by rfl,rfl⟩) (by assumption) ?_
     try simp only [Act.put,Ap,Ah,Ag,Ae,Aj,Aq]
     refine wpAnyH_take (i:=11) (v:=undef) rfl Γ Γ Γ (λ_ _ _ h=>h) (Or.inr ⟨by rfl,rfl⟩) (by assumption) ?_;refine wpAnyH_take (i:=12) (v:=undef) rfl Γ Γ Γ (λ_ _ _ h=>h) (Or.inr ⟨by rfl,rfl⟩) (by assumption) ?_;refine wpAnyH_take (i:=13) (v:=undef) rfl Γ Γ Γ (λ_ _ _ h=>h) (Or.inr ⟨by rfl,rfl⟩) (by assumption) ?_
     try simp only [Act.put,Ap,Ah,Ag,Ae,Aj,Aq]
     refine wpAnyH_take (i:=14) (v:=undef) rfl Γ Γ Γ (λ_ _ _ h=>h) (Or.inr ⟨by rfl,rfl⟩) (by assumption) ?_;refine wpAnyH_take (i:=15) (v:=undef) rfl Γ Γ Γ (λ_ _ _ h=>h) (Or.inr ⟨by rfl,rfl⟩) (by assumption) ?_;refine wpAnyH_take (i:=16) (v:=undef) rfl Γ Γ Γ (λ_ _ _ h=>h) (Or.inr ⟨by rfl,rfl⟩) (by assumption) ?_
     try simp only [Act.put,Ap,Ah,Ag,Ae,Aj,Aq]
     refine Eo 17 (.bool true) hHeld ?_
     try simp only [Act.put,Ap,Ah,Ag,Ae,Aj,Aq]
     refine wpAnyH_done Γ ?_ _;have HB4:=Aa (τ HBt.out hb4);clear hb3 hb4 z0 z1 z2 hHeld
     go_wp2_with fail
     go_ret;exact⟨by rw [HV.out];rfl,HB4.out⟩
   | true=>
     rw [hr]at HR;have HRn:Hid (∀j(hj:j<l.length),j<k+1->Dz l[j]=true):=Aa (λj hj hjk=>by
      by_cases e:j=k
      ·subst e;rw [<-HY.out];exact hr
      ·exact HRi.out j hj O)
     clear hr;by_cases hk0:k=0
     ·have HUn:Hid (aS l (k+1)):=Aa (λj hj hjk=>absurd hjk O);have hx6:decide ((0:Int)<(k:Int))=false:=decide_eq_false O;have hx7:decide (0<k)=false:=decide_eq_false O;clear hk0
      go_wp2_with fail
      rw [<-HW2.out];refine wp_region_held_drew (S:=(λw'=>w'.cell? (Φ wr.heap.size)=some (.string y.key)/\w'.cell? (Δ wr.heap.size 1)=some (.string y.text)/\w'.cell? (Δ wr.heap.size 2)=some (.bool y.gone))) Γ ⟨z0,z1,z2⟩ (λhHeld=> ?_);refine Eo 0 (.agg #[.string y.key,.string y.text,.bool y.gone]) hHeld (hy:=λw hSw=>by obtain⟨s0,s1,s2⟩:=hSw;go_simp) ?_
      try simp only [Act.put,Ap,Ag,Ae,Aj,Aq]
      refine wpAnyH_ready (rs:=[1]) Γ Θ ?_;refine AllReadyH.cons rfl (λK hK=> ?_) AllReadyH.nil;go_simp;go_at_call 87;refine(HR.out _).mono ?_;rintro e w3⟨rfl,hb3⟩;have hb4:η W2 w3:=(((Dr.drew _).below _).trans hb3);refine hK.out _ _ (HZ.out _ hb4) (λhHeld=> ?_);clear hK K
      try simp only [Act.put,Ap,Ah,Ag,Ae,Aj,Aq]
      refine Eo 2 (.bool false) hHeld ?_;refine Eo 3 (.bool false) hHeld ?_;refine Eo 4 (.int .i64 (k:Int)) hHeld ?_
      try simp only [Act.put,Ap,Ah,Ag,Ae,Aj,Aq]
      refine Eo 5 (.bool false) hHeld ?_;refine Eo 6 (.bool false) hHeld ?_;refine wpAnyH_take (i:=7) (v:=undef) rfl Γ Γ Γ (λ_ _ _ h=>h) (Or.inr ⟨by rfl,rfl⟩) (by assumption) ?_
      try simp only [Act.put,Ap,Ah,Ag,Ae,Aj,Aq]
      refine wpAnyH_take (i:=8) (v:=undef) rfl Γ Γ Γ (λ_ _ _ h=>h) (Or.inr ⟨by rfl,rfl⟩) (by assumption) ?_;refine wpAnyH_take (i:=9) (v:=undef) rfl Γ Γ Γ (λ_ _ _ h=>h) (Or.inr ⟨by rfl,rfl⟩) (by assumption) ?_;refine wpAnyH_take (i:=10) (v:=undef) rfl Γ Γ Γ (λ_ _ _ h=>h) (Or.inr ⟨by rfl,rfl⟩) (by assumption) ?_
      try simp only [Act.put,Ap,Ah,Ag,Ae,Aj,Aq]
      refine wpAnyH_take (i:=11) (v:=undef) rfl Γ Γ Γ (λ_ _ _ h=>h) (Or.inr ⟨by rfl,rfl⟩) (by assumption) ?_;refine wpAnyH_take (i:=12) (v:=undef) rfl Γ Γ Γ (λ_ _ _ h=>h) (Or.inr ⟨by rfl,rfl⟩) (by assumption) ?_;refine wpAnyH_take (i:=13) (v:=undef) rfl Γ Γ Γ (λ_ _ _ h=>h) (Or.inr ⟨by rfl,rfl⟩) (by assumption) ?_
      try simp only [Act.put,Ap,Ah,Ag,Ae,Aj,Aq]
      refine wpAnyH_take (i:=14) (v:=undef) rfl Γ Γ Γ (λ_ _ _ h=>h) (Or.inr ⟨by rfl,rfl⟩) (by assumption) ?_;refine wpAnyH_take (i:=15) (v:=undef) rfl Γ Γ Γ (λ_ _ _ h=>h) (Or.inr ⟨by rfl,rfl⟩) (by assumption) ?_;refine Eo 16 (.bool false) hHeld ?_
      try simp only [Act.put,Ap,Ah,Ag,Ae,Aj,Aq]
      refine Eo 17 (.bool false) hHeld ?_
      try simp only [Act.put,Ap,Ah,Ag,Ae,Aj,Aq]
      refine wpAnyH_done Γ ?_ _;have HB4:=Aa (τ HBt.out hb4);clear hb3 hb4 z0 z1 z2 hHeld
      go_wp2_with fail
      go_roundw
      case rel=>exact⟨k+1,O,by go_num,HRn.out,HUn.out,HB4.out⟩
      case measure=>simp [intOf];omega
     ·obtain⟨m,hkm⟩:∃m,k=m+1:=⟨k-1,O⟩;have HKm:=Aa hkm;have hml:m<l.length:=O
      obtain⟨b3,Arc,c3,hv3,_,hbw3,_,p0,_,_⟩:=(HS.out.below HB.out).at m hml;simp only [Value.slice.injEq,Option.some.injEq,Addr.mk.injEq,true_and,and_true]at hv3;obtain⟨⟨rfl,rfl⟩,rfl⟩:=hv3;obtain⟨z,hz⟩:∃z,z=l[m]'hml:=⟨_,rfl⟩;rw [<-hz]at p0;have hpw:W2.cell? (Δ b2 (off+m*3))=some (.string z.key):=by rw [HW2.out];exact(BA (w:=wr) (χ _ _ hbw)).trans p0
      have HPv:Hid (∀W,η W2 W->W.cell? (Δ b2 (off+m*3))=some (.string z.key)):=Aa (λW k=>(BA (w:=W2) (k.block _ (World.block_lt_of_cell? W2 _ hpw))).trans hpw);have UQ:Hid (Op.bytesLess z.key.toList y.key.toList=true->aS l (k+1)):=Aa (λh j hj hjk=>by
       have Ao4:=HKm.out;subst Ao4;by_cases e:j=m
       ·subst e;rw [<-hz,<-HY.out];exact h
       ·exact HUp.out j hj O)
      have HLn:Hid (Op.bytesLess z.key.toList y.key.toList=false->Nw l=false):=Aa (λh=>by
       have Ao4:=HKm.out;subst Ao4;exact Ad7 hlt (by rw [<-hz,<-HY.out];exact h))
      have hx6:decide ((0:Int)<(k:Int))=true:=decide_eq_true O;have hx7:decide (0<k)=true:=decide_eq_true O;have hwm:IntKind.i64.wrap ((k:Int) -1)=(m:Int):=(IntWalk.i64_in _ O).trans O;have Awc:(m:Int)<(l.length:Int):=O
      have Axt:decide ((m:Int)<(l.length:Int))=true:=decide_eq_true Awc;have Axu:decide (m<l.length)=true:=decide_eq_true O;clear hkm hk0 hz;cases hls:Op.bytesLess z.key.toList y.key.toList with
      | true=>
        have HUn:=Aa (UQ.out hls)
        go_wp2_with fail
        rw [<-HW2.out];refine wp_region_held_drew (S:=(λw'=>w'.cell? (Φ wr.heap.size)=some (.string y.key)/\w'.cell? (Δ wr.heap.size 1)=some (.string y.text)/\w'.cell? (Δ wr.heap.size 2)=some (.bool y.gone)/\w'.cell? (Δ b2 (off+m*3))=some (.string z.key))) Γ ⟨z0,z1,z2,hpw⟩ (λhHeld=> ?_);refine Eo 0 (.agg #[.string y.key,.string y.text,.bool y.gone]) hHeld (hy:=λw hSw=>by obtain⟨s0,s1,s2,s3⟩:=hSw;go_simp) ?_
        try simp only [Act.put,Ap,Ag,Ae,Aj,Aq]
        refine wpAnyH_ready (rs:=[1]) Γ Θ ?_;refine AllReadyH.cons rfl (λK hK=> ?_) AllReadyH.nil;go_simp;go_at_call 87;refine(HR.out _).mono ?_;rintro e w3⟨rfl,hb3⟩;have hb4:η W2 w3:=(((Dr.drew _).below _).trans hb3);refine hK.out _ _ (⟨(HZ.out _ hb4).1,(HZ.out _ hb4).2.1,(HZ.out _ hb4).2.2,HPv.out _ hb4⟩) (λhHeld=> ?_);clear hK K
        try simp only [Act.put,Ap,Ah,Ag,Ae,Aj,Aq]
        refine Eo 2 (.bool false) hHeld ?_;refine Eo 3 (.bool false) hHeld ?_;refine Eo 4 (.int .i64 (k:Int)) hHeld ?_
        try simp only [Act.put,Ap,Ah,Ag,Ae,Aj,Aq]
        refine Eo 5 (.bool true) hHeld ?_;refine Eo 6 (.bool true) hHeld ?_;refine Eo 7 (.slice (some (Δ b2 off)) l.length c) hHeld ?_
        try simp only [Act.put,Ap,Ah,Ag,Ae,Aj,Aq]
        refine Eo 8 (.int .i64 (k:Int)) hHeld ?_;refine Eo 9 (.int .i64 (m:Int)) hHeld ?_;refine Eo 10 (.pointer (some (Δ b2 (off+m*3)))) hHeld ?_
        try simp only [Act.put,Ap,Ah,Ag,Ae,Aj,Aq]
        refine Eo 11 (.pointer (some (Δ b2 (off+m*3)))) hHeld ?_;refine Eo 12 (.string z.key) hHeld (hy:=λw hSw=>by obtain⟨s0,s1,s2,s3⟩:=hSw;go_simp) ?_;refine Eo 13 (Az wr.heap.size) hHeld ?_
        try simp only [Act.put,Ap,Ah,Ag,Ae,Aj,Aq]
        refine Eo 14 (.string y.key) hHeld (hy:=λw hSw=>by obtain⟨s0,s1,s2,s3⟩:=hSw;go_simp) ?_;refine Eo 15 (.bool false) hHeld ?_;refine Eo 16 (.bool false) hHeld ?_
        try simp only [Act.put,Ap,Ah,Ag,Ae,Aj,Aq]
        refine Eo 17 (.bool false) hHeld ?_
        try simp only [Act.put,Ap,Ah,Ag,Ae,Aj,Aq]
        refine wpAnyH_done Γ ?_ _;have HB4:=Aa (τ HBt.out hb4);clear hb3 hb4 z0 z1 z2 hHeld
        go_wp2_with fail
        go_roundw
        case rel=>exact⟨k+1,O,by go_num,HRn.out,HUn.out,HB4.out⟩
        case measure=>simp [intOf];omega
      | false=>
        have HV:=Aa (HLn.out hls)
        go_wp2_with fail
        rw [<-HW2.out];refine wp_region_held_drew (S:=(λw'=>w'.cell? (Φ wr.heap.size)=some (.string y.key)/\w'.cell? (Δ wr.heap.size 1)=some (.string y.text)/\w'.cell? (Δ wr.heap.size 2)=some (.bool y.gone)/\w'.cell? (Δ b2 (off+m*3))=some (.string z.key))) Γ ⟨z0,z1,z2,hpw⟩ (λhHeld=> ?_);refine Eo 0 (.agg #[.string y.key,.string y.text,.bool y.gone]) hHeld (hy:=λw hSw=>by obtain⟨s0,s1,s2,s3⟩:=hSw;go_simp) ?_
        try simp only [Act.put,Ap,Ag,Ae,Aj,Aq]
        refine wpAnyH_ready (rs:=[1]) Γ Θ ?_;refine AllReadyH.cons rfl (λK hK=> ?_) AllReadyH.nil;go_simp;go_at_call 87;refine(HR.out _).mono ?_;rintro e w3⟨rfl,hb3⟩;have hb4:η W2 w3:=(((Dr.drew _).below _).trans hb3);refine hK.out _ _ (⟨(HZ.out _ hb4).1,(HZ.out _ hb4).2.1,(HZ.out _ hb4).2.2,HPv.out _ hb4⟩) (λhHeld=> ?_);clear hK K
        try simp only [Act.put,Ap,Ah,Ag,Ae,Aj,Aq]
        refine Eo 2 (.bool false) hHeld ?_;refine Eo 3 (.bool false) hHeld ?_;refine Eo 4 (.int .i64 (k:Int)) hHeld ?_
        try simp only [Act.put,Ap,Ah,Ag,Ae,Aj,Aq]
        refine Eo 5 (.bool true) hHeld ?_;refine Eo 6 (.bool true) hHeld ?_;refine Eo 7 (.slice (some (Δ b2 off)) l.length c) hHeld ?_
        try simp only [Act.put,Ap,Ah,Ag,Ae,Aj,Aq]
        refine Eo 8 (.int .i64 (k:Int)) hHeld ?_;refine Eo 9 (.int .i64 (m:Int)) hHeld ?_;refine Eo 10 (.pointer (some (Δ b2 (off+m*3)))) hHeld ?_
        try simp only [Act.put,Ap,Ah,Ag,Ae,Aj,Aq]
        refine Eo 11 (.pointer (some (Δ b2 (off+m*3)))) hHeld ?_;refine Eo 12 (.string z.key) hHeld (hy:=λw hSw=>by obtain⟨s0,s1,s2,s3⟩:=hSw;go_simp) ?_;refine Eo 13 (Az wr.heap.size) hHeld ?_
        try simp only [Act.put,Ap,Ah,Ag,Ae,Aj,Aq]
        refine Eo 14 (.string y.key) hHeld (hy:=λw hSw=>by obtain⟨s0,s1,s2,s3⟩:=hSw;go_simp) ?_;refine Eo 15 (.bool true) hHeld ?_;refine Eo 16 (.bool true) hHeld ?_
        try simp only [Act.put,Ap,Ah,Ag,Ae,Aj,Aq]
        refine Eo 17 (.bool true) hHeld ?_
        try simp only [Act.put,Ap,Ah,Ag,Ae,Aj,Aq]
        refine wpAnyH_done Γ ?_ _;have HB4:=Aa (τ HBt.out hb4);clear hb3 hb4 z0 z1 z2 hHeld
        go_wp2_with fail
        go_ret;exact⟨by rw [HV.out];rfl,HB4.out⟩
  ·have hkn:k=l.length:=O
   obtain⟨hx1,hx5⟩:=mQ hlt;have HV:Hid (Nw l=true):=Aa (iW O (λj hj=>HRi.out j hj O) (λj hj hjk=>HUp.out j hj O));clear hkn
   go_wp2_with fail
   go_ret;exact⟨by rw [HV.out];rfl,HB.out⟩
section
variable{len:Mode}{w w':World}{x d p L:Nat}{s:St}{F:Nat->Prop}
def SI(slot stamp:UInt64)(l:List Wr):Bool:=decide (slot.toNat<stamp.toNat)&&decide (stamp.toNat<=60000)&&Nw l
def lV(h:Ew len w d p L s F){G:Nat->Prop}{v:Value}{l:List Wr}(hv:I4 w G v l)(hl:l.length<=100000)(hsz:∀x∈l,x.key.size<=4294967296/\x.text.size<=4294967296)(stamp:UInt64):
 Calls prog 45 #[Az d,Az p,Az x,.int .u64 (stamp.toNat:Int),v] w λe w'=>η w w'/\
  (SI (s.ws 8) stamp l=true->∃jb vs,e= .returned (.tuple #[Az jb,.int .i64 0])/\
   w.heap.size<=jb/\CS w' jb 187 (DN x d p stamp vs (.slice none 0 0) false 0)/\(∀G:Nat->Prop,(∀b,w.heap.size<=b->b<jb->¬G b)->I4 w' G vs l))/\
  (SI (s.ws 8) stamp l=false->e= .returned (.tuple #[.pointer none,.int .i64 2])):=by
 have hL:=h.pos.1;have t0:(((L*64:Nat):Int)==0)=false:=by rw [beq_eq_false_iff_ne];omega
 have HS:=Aa h.size;obtain⟨sz,hsz'⟩:∃sz,L*64=sz:=⟨_,rfl⟩;rw [hsz']at t0 HS;have hL2:=h.pos.2.2.1.fits;have hL3:=h.pos.2.2.1.Le;have HL:=Aa (h.load 8 O);rw [show((8*8:Nat):Int)=64 from rfl]at HL;obtain⟨A0,c0,rfl⟩:=hv.slice;have HF:=Aa (Alg hv hl hsz);have HV:=Aa hv;have HLl:=Aa hl;clear h hv hsz hsz' hL hL2 hL3;by_cases h1:stamp.toNat<=(s.ws 8).toNat
 ·have t1:decide ((stamp.toNat:Int)<=((s.ws 8).toNat:Int))=true:=decide_eq_true O;have t2:decide (stamp.toNat<=(s.ws 8).toNat)=true:=decide_eq_true h1;have HN:Hid (SI (s.ws 8) stamp l=false):=Aa (by unfold SI;rw [decide_eq_false O];rfl);clear h1;go_enter func45,ntmps45
  go_wp2_with fail
  refine HS.out.mono ?_;rintro e w1⟨rfl,rfl⟩
  go_wp2_with fail
  refine HL.out.mono ?_;rintro e w1⟨rfl,rfl⟩
  go_wp2_with fail
  go_ret2;exact⟨Below.refl _ _,λh=>absurd h (by rw [HN.out];decide),λ_=>rfl⟩
 have t1:decide ((stamp.toNat:Int)<=((s.ws 8).toNat:Int))=false:=decide_eq_false O;have t2:decide (stamp.toNat<=(s.ws 8).toNat)=false:=decide_eq_false O;by_cases h2:60000<stamp.toNat
 ·have t3:decide ((60000:Int)<(stamp.toNat:Int))=true:=decide_eq_true O;have t4:decide (60000<stamp.toNat)=true:=decide_eq_true h2;have HN:Hid (SI (s.ws 8) stamp l=false):=Aa (by unfold SI;rw [show decide (stamp.toNat<=60000)=false from decide_eq_false O,Bool.and_false];rfl);clear h1 h2;go_enter func45,ntmps45
  go_wp2_with fail
  refine HS.out.mono ?_;rintro e w1⟨rfl,rfl⟩
  go_wp2_with fail
  refine HL.out.mono ?_;rintro e w1⟨rfl,rfl⟩
  go_wp2_with fail
  go_ret2;exact⟨Below.refl _ _,λh=>absurd h (by rw [HN.out];decide),λ_=>rfl⟩
 have t3:decide ((60000:Int)<(stamp.toNat:Int))=false:=decide_eq_false O;have t4:decide (60000<stamp.toNat)=false:=decide_eq_false O;have hnb:SI (s.ws 8) stamp l=Nw l:=by unfold SI;rw [decide_eq_true O,decide_eq_true O];rfl
 cases hf:Nw l with
 | false=>
   rw [hf]at HF hnb;have HN:=Aa hnb;clear h1 h2 hnb hf;go_enter func45,ntmps45
   go_wp2_with fail
   refine HS.out.mono ?_;rintro e w1⟨rfl,rfl⟩
   go_wp2_with fail
   refine HL.out.mono ?_;rintro e w1⟨rfl,rfl⟩
   go_wp2_with fail
   refine HF.out.mono ?_;rintro e w1⟨rfl,hb1⟩;have HB1:=Aa hb1;clear hb1 HS HL HF
   go_wp2_with fail
   go_ret2;exact⟨HB1.out,λh=>absurd h (by rw [HN.out];decide),λ_=>rfl⟩
 | true=>
   rw [hf]at HF hnb;have HN:=Aa hnb;clear h1 h2 hnb hf;go_enter func45,ntmps45
   go_wp2_with fail
   refine HS.out.mono ?_;rintro e w1⟨rfl,rfl⟩
   go_wp2_with fail
   refine HL.out.mono ?_;rintro e w1⟨rfl,rfl⟩
   go_wp2_with fail
   refine HF.out.mono ?_;rintro e w1⟨rfl,hb1⟩;have HC:=Aa (PG (HV.out.below hb1) HLl.out);have HB1:=Aa hb1;clear hb1 HS HL HF
   go_wp2_with fail
   refine HC.out.mono ?_;rintro e w2⟨u,rfl,hO,hB⟩;obtain⟨A5,c5,hu5,_,_⟩:=DL hO;subst hu5;have HO:=Aa hO;have HB:=Aa (τ HB1.out hB);clear hO hB HC
   go_wp2_with fail
   go_ret2;obtain⟨W,hW⟩:∃W,W=w2.alloc (.cells (DN x d p stamp (.slice A5 l.length c5) (.slice none 0 0) false 0).toArray 187):=⟨_,rfl⟩;have hbW:η w2 W:=hW▸(Below.refl _ _).alloc (Nat.le_refl _) _;have hJ:CS W w2.heap.size 187 (DN x d p stamp (.slice A5 l.length c5) (.slice none 0 0) false 0):=hW▸heap_alloc_new _ _;refine⟨by rw [hW]at hbW;exact τ HB.out hbW,λ_=>⟨w2.heap.size,.slice A5 l.length c5,rfl,HB.out.size,by rw [hW]at hJ;exact hJ,λG hG=> ?_⟩,λh=>absurd h (by rw [HN.out];decide)⟩;have hs:I4 w2 G (.slice A5 l.length c5) l:=qw HO.out rfl (λb hb hlt=>hG b (Nat.le_trans HB1.out.size hb) hlt);rw [hW]at hbW;exact hs.below hbW
end
