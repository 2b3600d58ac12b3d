import Derived.Test.YtkimaejoeapmnaaGreatDoorH29
import Derived.Test.YtkimaejoeapmnaaGreatDoorH37
set_option linter.defProp false
set_option maxHeartbeats 32000000
set_option maxRecDepth 100000
open Nat renaming lt_of_lt_of_le->BQ,le_refl->Ad,zero_add->DR,le_trans->Bc
open List renaming foldl_append->Ae2,getElem?_cons_zero->Am,getElem?_cons_succ->AA,getElem_mem->BI,getElem_toArray->Ap,getElem_cons_succ->Ah,getElem_cons_zero->Ag,setIfInBounds_toArray->Ae,set_cons_zero->Aj,set_cons_succ->Aq,length_append->AQ,foldl_cons->SN,reverse_append->UW,reverse_singleton->Rn,singleton_append->TF,length_reverse->Io,getElem_reverse->uX,getElem?_eq_getElem->Af
open Go.Lib renaming hid->Aa
open Go.World renaming putObj_heap_other->Ij,cell?_of_block->BA
open UInt64 renaming toNat_inj->Ec,ofNat->Aw,toNat->UU
namespace Go.Proofs.YtkimaejoeapmnaaGreatDoor
open Go.Proofs.Tryz
open Go.RowKit Go.Shelf
attribute [local go_sem]Oper.semAt_some
def VL(l:List Wr)(ps:List (UInt64×UInt64))(hpl:ps.length<=l.length)(s:St)(x:Below' ps.length):St:=
 if(ps[x.1]'x.2).2=0 then s else(IE (J4 s (l[x.1]'(BQ x.2 hpl)).key.data.toList (ps[x.1]'x.2).1).1 (Bj (ps[x.1]'x.2).2)).1
def J8(l:List Wr)(ps:List (UInt64×UInt64))(hpl:ps.length<=l.length)(s:St)(pre:List (Below' ps.length)):St:=pre.foldl (VL l ps hpl) s
def VM(l:List Wr)(ps:List (UInt64×UInt64))(hpl:ps.length<=l.length)(s:St)(pre:List (Below' ps.length))(x:Below' ps.length):Prop:=
 (ps[x.1]'x.2).2≠0/\(J4 (J8 l ps hpl s pre) (l[x.1]'(BQ x.2 hpl)).key.data.toList (ps[x.1]'x.2).1).2≠0
def XR(l:List Wr)(ps:List (UInt64×UInt64))(hpl:ps.length<=l.length)(s:St)(pre:List (Below' ps.length))(x:Below' ps.length):J8 l ps hpl s (pre++[x])=VL l ps hpl (J8 l ps hpl s pre) x:=by
 unfold J8;rw [Ae2];rfl
def QT{W W':World}{G:Nat->Prop}(B:Nat)(t:Touch G W W')(hG:∀b,G b->b<W.heap.size->MG W b):KeepsFrom B W W':=⟨t.size,λk o _ hk ho=>by
 have hkl:=(Array.getElem?_eq_some_iff.1 hk).1;rw [t.block k hkl (λhg=>by
  obtain⟨o',h1,h2⟩:=hG k hg hkl;rw [hk]at h1;injection h1 with h1
  rw [<-h1,ho]at h2;cases h2)]
 exact hk⟩
def Ato(A:Option Addr)(n c:Nat)(w:World):Calls prog 142 #[.slice A n c] w λe w'=>e= .returned (.func (.func 173) #[] #[Az w.heap.size])/\w'=w.alloc (.cells #[.slice A n c] 185):=by
 go_enter func142,ntmps142
 go_wp2_with fail
 refine bodyPost_ret (v:= .func (.func 173) #[] #[Az w.heap.size]) (by simp [results,results142,go_sem]) rfl ?_;exact⟨rfl,rfl⟩
def Fz.ends{m0:DY}{w:World}{base jb x d p L:Nat}{s:St}{stamp:UInt64}{vs:Value}{l:List Wr}{ps:List (UInt64×UInt64)}{over:Bool}{en:Int}{F:Nat->Prop}{v:Value}(h:Fz m0 w base jb x d p L s stamp vs l ps over en F v)(er:Int):
 Fz m0 ((w.setCell (Δ jb 6) (.bool true)).setCell (Δ jb 7) (.int .i64 er)) base jb x d p L s stamp vs l ps true er F v/\AP (JG F jb v) (JG F jb v) w ((w.setCell (Δ jb 6) (.bool true)).setCell (Δ jb 7) (.int .i64 er)):=by
 have t:Touch (λb=>b=jb) w ((w.setCell (Δ jb 6) (.bool true)).setCell (Δ jb 7) (.int .i64 er)):=((Touch.refl (λb=>b=jb) w).setCell (p:=Δ jb 6) (.inl rfl) _).setCell (p:=Δ jb 7) (.inl rfl) _;have m:AP (JG F jb v) (JG F jb v) w ((w.setCell (Δ jb 6) (.bool true)).setCell (Δ jb 7) (.int .i64 er)):=⟨t.mono (λb e=> .inr (.inl e)),λb hb=> .inl hb⟩;exact⟨⟨⟨h.ix.sys.keep t (λb hb e=>h.fj (e▸hb)) h.gj.1 h.gj.2,h.ix.box.touch t h.xj,h.ix.out⟩,(h.box.AZ 6 (.bool true)).AZ 7 (.int .i64 er),Ie h.row t (λb hb e=>h.mj (e▸hb)),h.set.moved m,h.fj,h.bj,h.bx,h.bt,h.mj,h.mF⟩,m⟩
def Alh{m0:DY}{w:World}{base jb xx d p L:Nat}{s:St}{stamp:UInt64}{vs:Value}{l:List Wr}{ps:List (UInt64×UInt64)}{en:Int}{F:Nat->Prop}{A:Option Addr}{c:Nat}(h:Fz m0 w base jb xx d p L s stamp vs l ps false en F (.slice A ps.length c))(hmd:ps.length=0\/m0= .up M0)(hpl:ps.length<=l.length)(hl:l.length<=100000)(hkey:∀y∈l,y.key.size<=1000)(er:Int)
 (hok:∀k(hk:k<ps.length),¬VM l ps hpl s (FP ps.length k) ⟨ps.length-1-k,O⟩):
 Calls prog 94 #[Az jb,.int .i64 er] w λe w'=>e= .returned (.int .i64 er)/\∃F',Fz m0 w' base jb xx d p L (J8 l ps hpl s (FP ps.length ps.length)) stamp vs l ps true er F' (.slice A ps.length c)/\
  AP (JG F jb (.slice A ps.length c)) (JG F' jb (.slice A ps.length c)) w w':=by
 have hjl:=h.box.lt;have j5:=h.box.cell 5;unfold DN at j5;simp only [Am,AA]at j5;have HH:=Aa h;obtain⟨g,hgc⟩:∃g,A=some (Φ g)\/(g=jb/\ps.length=0):=by
  rcases h.row.2 with⟨h1,h2⟩| ⟨g,cap,cur,h1,_⟩
  ·exact⟨jb,.inr ⟨rfl,by injection h1⟩⟩
  ·exact⟨g,.inl (by injection h1)⟩
 have hgA:0<ps.length->A=some (Φ g):=λh0=>hgc.resolve_right (λh1=>O)
 have HG:Hid (∀(W:World)(F':Nat->Prop)(s':St),Fz m0 W base jb xx d p L s' stamp vs l ps false en F' (.slice A ps.length c)->g<W.heap.size/\¬F' g):=Aa (λW F' s' hc=>by
  rcases hgc with h1| ⟨h1,_⟩
  ·exact⟨(hc.mlt g (by rw [h1];rfl)).2,hc.mF g (by rw [h1];rfl)⟩
  ·subst h1;exact⟨hc.box.lt,hc.fj⟩)
 have hgl:g<w.heap.size:=(HG.out _ _ _ h).1;refine(callsIn_wide (n:=3)).1 ?_;refine callsIn_of_wp_marks func94 rfl trivial ?_ rfl;simp only [ntmps94,List.size_toArray,List.length_cons,List.length_nil,Nat.reduceAdd,Nat.reduceSub,Array.replicate_succ,Array.replicate_zero,List.push_toArray,List.append_toArray,List.nil_append,List.cons_append]
 gi_wp2_with(refine⟨trivial,?_⟩;gi_at_call 142;refine(callsIn_wide.2 (Ato _ _ _ _)).mono ?_;rintro e w'⟨rfl,rfl⟩)
 obtain⟨W3,hW3⟩:∃W3,W3=(w.alloc (.cells #[Az jb] 120)).alloc (.cells #[.slice A ps.length c] 185):=⟨_,rfl⟩;rw [<-hW3];have hb3:η w W3:=hW3▸((Below.refl _ w).alloc (Ad _) _).alloc Θ _;have B2:CS W3 w.heap.size 120 [Az jb]:=by rw [hW3];exact(χ _ _ Θ).trans (heap_alloc_new _ _)
 have Bn:CS W3 (w.heap.size+1) 185 [.slice A ps.length c]:=by
  have:=heap_alloc_new (w.alloc (.cells #[Az jb] 120)) (.cells #[.slice A ps.length c] 185);rw [show(w.alloc (.cells #[Az jb] 120)).heap.size=w.heap.size+1 by simp,<-hW3]at this;exact this
 have hs3:W3.heap.size=w.heap.size+2:=by rw [hW3];simp
 have hC3:=h.below hb3;have hrow3:∀i(h:i<ps.length),W3.cell? (Δ g (i*2))=some (.int .u64 (ps[i].1.toNat:Int))/\W3.cell? (Δ g (i*2+1))=some (.int .u64 (ps[i].2.toNat:Int)):=λi hi=>by
  obtain⟨A',c',e',_,hr⟩:=DL hC3.row;obtain⟨b,off,e2,_,hc⟩:=hr.2 O;injection e' with e' _ _
  rw [hgA O]at e';subst e';injection e2 with e2
  injection e2 with e3 e4
  subst e3 e4;have hf:=flat_get Aaq 2 (λ_=>rfl) ps i;refine⟨?_,?_⟩
  ·have:=hc (i*2) O;rw [DR]at this;rw [this];exact hf 0 hi U
  ·have:=hc (i*2+1) O;rw [DR]at this;rw [this];exact hf 1 hi U
 have HKk:=Aa hkey;have jX:=Aa hok;have htab:=h.ix.sys.tabs.lt;have hxl:=h.ix.box.lt;have p1:=Bn.p1;refine wpIn_rangeFunc_ownH rfl U (gf:=173) (lb:= #[Az (w.heap.size+1)]) rfl trivial (enters_of func173 Γ rfl)
  (encs:=λx:Below' ps.length=> #[.int .i64 (x.1:Int),aT (ps[x.1]'x.2)]) (Kp:=qW g (w.heap.size+1)) (S:=λxs=>xs=FP ps.length ps.length) (Sp:=λpre=>pre<+:FP ps.length ps.length) (N:=ps.length) (w0:=W3)
  (Akw Fence.wide 2 trivial rfl U (w.heap.size+1) g c A ps O hgA W3 p1 hrow3 O) (λh1 h2=>⟨h2.1.trans h1.1,h2.2.trans h1.2⟩) (λW k o o' hk ho h1 _=>⟨Ij O,Ij O⟩) (Below.refl _ _) (λ_=>rfl)
  (λpre W=>(∃F',Fz m0 W base jb xx d p L (J8 l ps hpl s pre) stamp vs l ps false en F' (.slice A ps.length c)/\AP (JG F jb (.slice A ps.length c)) (JG F' jb (.slice A ps.length c)) w W)/\(CS W w.heap.size 120 [Az jb]/\CS W (w.heap.size+1) 185 [.slice A ps.length c])/\W3.heap.size<=W.heap.size)
  (λe pre _=>e= .exit 0/\∃sH x,pre=sH++[x]/\VM l ps hpl s sH x)
  ?hI (λ_ _ _ _ _ hs _ _=>hs) ⟨⟨F,hC3,AP.of_below hb3⟩,⟨B2,Bn⟩,Ad _⟩
  (λx a' W=>∃Bx,W3.heap.size<=Bx/\CS W Bx 189 [.int .u64 ((ps[x.1]'x.2).1.toNat:Int),.int .u64 ((ps[x.1]'x.2).2.toNat:Int)]/\a'={tmps:= #[Az jb,.int .i64 er,Az w.heap.size,undef,.int .i64 0,.int .i64 (x.1:Int),Az Bx,Az jb,Az jb,.pointer (some (Δ jb 5)),.slice A ps.length c,.func (.func 173) #[] #[Az (w.heap.size+1)],.int .i64 (x.1:Int),aT (ps[x.1]'x.2),undef,undef,undef,undef,undef,undef,undef,undef,undef,undef,undef,undef,undef,undef,undef,undef,undef,undef,undef,undef,undef,undef,undef,undef,undef,undef,undef,undef,undef,undef,undef,undef],defers:=[]})
  ?hAx ?assign ?body ?done ?stop
 case hI=>
  rintro pre X Y row⟨⟨F',hC,hM⟩,⟨hB2,hBn⟩,hsz⟩hg hr;have hno:∀r,row=some r->¬MG X r:=λr e⟨o,h1,h2⟩=>by
   obtain⟨_,o',h3,h4⟩:=hr r e;rw [h1]at h3;injection h3 with h3
   rw [h3,h4]at h2;cases h2
  have t:=KQ hg;exact⟨⟨F',hC.abide hg hno,⟨hM.touch.trans t (λb e=> .inr (Ω ((hr b e).1))),hM.own⟩⟩,⟨hB2.touch t (λe=>hno _ e (I7 hB2)),hBn.touch t (λe=>hno _ e (I7 hBn))⟩,Bc hsz t.size⟩
 case hAx=>
  intro x a';rintro u X Y row⟨Bx,h1,h2,h3⟩hg hr;refine⟨Bx,h1,h2.touch (KQ hg) (λe=> ?_),h3⟩;obtain⟨_,o',h4,h5⟩:=hr Bx e;obtain⟨o,h6,h7⟩:=I7 h2;rw [h6]at h4;injection h4 with h4
  rw [h4,h5]at h7;cases h7
 case assign=>
  rintro l0 pre x W K⟨⟨F',hC,hM⟩,⟨hB2,hBn⟩,hsz⟩hK;have hgW:g<W.heap.size:=(HG.out _ _ _ hC).1;unfold aT at hK⊢;have HK:=Aa hK;have HC:=Aa hC;have HM:=Aa hM;have HB2:=Aa hB2;have HBn:=Aa hBn;clear hK hC hM hB2 hBn;gi_wp2;have hbW:∀o,η W (W.alloc o):=λo=>(Below.refl _ _).alloc (Ad _) _
  exact HK.out _ _ ((KeepsOthers.alloc _ _).from _) ⟨χ _ _ hgW,χ _ _ O⟩ ⟨⟨F',HC.out.below (hbW _),HM.out.below (hbW _)⟩,⟨HB2.out.ξ (hbW _),HBn.out.ξ (hbW _)⟩,by have:=(hbW (.cells #[] 189)).size;simp at this⊢;omega⟩ ⟨W.heap.size,hsz,heap_alloc_new _ _,rfl⟩
 case body=>
  rintro l0 pre x a' W hl0⟨r,hr0⟩⟨⟨F',hC,hM⟩,⟨hB2,hBn⟩,hsz⟩⟨Bx,hBx1,hBx,rfl⟩hlen;have HMd:Hid (m0= .up M0):=Aa (hmd.resolve_left (λe=>Ω x.2));have Ad8:x.1<l.length:=BQ x.2 hpl;obtain⟨b2,off,c2,hv2,hc2,hbw,hnG,q0,q1,q2⟩:=hC.set.at x.1 Ad8;have hkx:=HKk.out l[x.1] (BI Ad8);have hsn:=XR l ps hpl s pre x;have Ao5:Hid (∀h:(ps[x.1]'x.2).2≠0,(J4 (J8 l ps hpl s pre) (l[x.1]'Ad8).key.data.toList (ps[x.1]'x.2).1).2≠0->VM l ps hpl s pre x):=Aa (λh k=>⟨h,k⟩);unfold VL at hsn;have HC:=Aa hC;have HM:=Aa hM;have HSn:=Aa hsn;have x0:=hBx.cell 0;have x1:=hBx.cell 1;have y0:=hB2.cell 0;simp only [Am,AA]at x0 x1 y0;have HB2:=Aa hB2;have HBx:=Aa hBx;have HBn:=Aa hBn;clear hC hM hsn hB2 hBx hBn;by_cases hz:(ps[x.1]'x.2).2=0
  ·rw [hz]at x1;have HS2:Hid (J8 l ps hpl s (pre++[x])=J8 l ps hpl s pre):=Aa (by rw [HSn.out,if_pos hz]);replace x1:W.cell? (Δ Bx 1)=some (.int .u64 0):=x1;clear hz HSn Ao5;unfold aT;gi_wp2;exact⟨KeepsFrom.refl _ _,⟨rfl,rfl⟩,⟨⟨F',by rw [HS2.out];exact HC.out,HM.out⟩,⟨HB2.out,HBn.out⟩,hsz⟩⟩
  ·have hS2:J8 l ps hpl s (pre++[x])=(IE (J4 (J8 l ps hpl s pre) (l[x.1]'Ad8).key.data.toList (ps[x.1]'x.2).1).1 (Bj (ps[x.1]'x.2).2)).1:=by rw [HSn.out,if_neg hz]
   have HS2:=Aa hS2;have sJ:=Aa (Ao5.out hz);have t1:(((ps[x.1]'x.2).2.toNat:Int)==0)=false:=by rw [beq_eq_false_iff_ne];intro e;exact hz (Ec.1 (by simp;omega))
   have t2:((ps[x.1]'x.2).2.toNat==0)=false:=by rw [beq_eq_false_iff_ne];intro e;exact hz (Ec.1 (by simp;omega))
   clear hz HSn Ao5 hS2;unfold aT;generalize ps[x.1]'x.2=px at*;generalize l[x.1]'Ad8=yx at*;have hd:1<=3-1-1:=by decide
   have hmx:prog.follows .mixedOrders=true:=by kernel_rfl
   have j4:=HC.out.box.cell 4;have j1:=HC.out.box.cell 1;unfold DN at j1 j4;simp only [Am,AA]at j1 j4;rw [hv2]at j4;have hx1:(x.1:Int)<(l.length:Int):=O
   have hx2:decide ((x.1:Int)<(l.length:Int))=true:=decide_eq_true hx1;have hx5:decide (x.1<l.length)=true:=decide_eq_true Ad8;have HXi:Hid (Ix W xx d p L (J8 l ps hpl s pre) F'):=Aa (by have h:=HC.out.ix;rw [HMd.out]at h;exact h);have HUn:=Aa (λW'(k:η W W')=>Alf (HXi.out.below k) (⟨HC.out.box.ξ k,HC.out.fj⟩:Nl W' jb xx d p stamp vs (.slice A ps.length c) false en F') yx.key hkx px.1);obtain⟨ur,hur⟩:∃ur,ur=J4 (J8 l ps hpl s pre) yx.key.data.toList px.1:=⟨_,rfl⟩;rw [<-hur]at HUn HS2 sJ;clear hur;have nB2:¬F' w.heap.size:=HC.out.ix.sys.lq HB2.out U;have nBx:¬F' Bx:=HC.out.ix.sys.lq HBx.out U;have nBn:¬F' (w.heap.size+1):=HC.out.ix.sys.lq HBn.out U;have ng:¬F' g:=(HG.out _ _ _ HC.out).2;have hgW:g<W.heap.size:=(HG.out _ _ _ HC.out).1;have nb2:¬F' b2:=λh=>hnG (.inl h)
   have nG:Hid (∀w5 F5,AP F' F5 W.drew w5->AP F' F5 W w5/\(w5.cell? (Φ w.heap.size)=some (Az jb)/\w5.cell? (Δ jb 4)=some (.slice (some (Δ b2 off)) l.length c2)/\w5.cell? (Δ b2 (off+x.1*3))=some (.string yx.key)/\w5.cell? (Φ Bx)=some (.int .u64 (px.1.toNat:Int)))):=Aa (λw5 F5 hm=>by
    have m:AP F' F5 W w5:=(AP.of_below ((Dr.drew W).below _)).trans hm;have bl:∀b,b<W.heap.size->¬F' b->w5.heap[b]? =W.heap[b]? :=λb hb hn=>m.touch.block b hb hn
    exact⟨m,(BA (bl _ HB2.out.lt nB2)).trans y0,(BA (bl _ HC.out.box.lt HC.out.fj)).trans j4,(BA (bl _ hbw nb2)).trans q0,(BA (bl _ HBx.out.lt nBx)).trans x0⟩)
   obtain⟨s5,r5⟩:=ur;simp only at HUn HS2 sJ;clear q1 q2;gi_wp2;by_cases mV:r5=0
   ·subst mV;clear sJ;refine I9 (S:=(λw'=>w'.cell? (Φ w.heap.size)=some (Az jb)/\w'.cell? (Δ jb 4)=some (.slice (some (Δ b2 off)) l.length c2)/\w'.cell? (Δ b2 (off+x.1*3))=some (.string yx.key)/\w'.cell? (Φ Bx)=some (.int .u64 (px.1.toNat:Int)))) Γ Γ ⟨y0,j4,q0,x0⟩ (λhHeld=> ?_);refine Eo 0 (Az jb) hHeld (hy:=λw hSw=>by obtain⟨s0,s1,s2,s3⟩:=hSw;go_simp) ?_;refine Eo 1 (Az jb) hHeld (hy:=λw hSw=>by obtain⟨s0,s1,s2,s3⟩:=hSw;go_simp) ?_;refine Eo 2 (Az jb) hHeld ?_;refine Eo 3 (.pointer (some (Δ jb 4))) hHeld ?_
    try simp only [Act.put,Ap,Ah,Ag,Ae,Aj,Aq]
    refine Eo 4 (.slice (some (Δ b2 off)) l.length c2) hHeld (hy:=λw hSw=>by obtain⟨s0,s1,s2,s3⟩:=hSw;go_simp) ?_;refine Eo 5 (.int .i64 (x.1:Int)) hHeld ?_;refine Eo 6 (.pointer (some (Δ b2 (off+x.1*3)))) hHeld ?_;refine Eo 7 (.pointer (some (Δ b2 (off+x.1*3)))) hHeld ?_
    try simp only [Act.put,Ap,Ah,Ag,Ae,Aj,Aq]
    refine Eo 8 (.string yx.key) hHeld (hy:=λw hSw=>by obtain⟨s0,s1,s2,s3⟩:=hSw;go_simp) ?_;refine Eo 9 (Az Bx) hHeld ?_;refine Eo 10 (.int .u64 (px.1.toNat:Int)) hHeld (hy:=λw hSw=>by obtain⟨s0,s1,s2,s3⟩:=hSw;go_simp) ?_
    try simp only [Act.put,Ap,Ah,Ag,Ae,Aj,Aq]
    refine wpAnyH_ready (rs:=[11]) Γ Θ ?_;refine AllReadyH.cons rfl (λK hK=> ?_) AllReadyH.nil;go_simp;go_at_call 143;refine(HUn.out _ ((Dr.drew W).below _)).mono ?_;rintro e w5⟨rfl,F5,WV,Ot⟩;obtain⟨hM,hS5⟩:=nG.out w5 F5 Ot;refine hK.out _ _ (hS5) (λhHeld=> ?_);clear hK K
    try simp only [Act.put,Ap,Ah,Ag,Ae,Aj,Aq]
    refine Eo 12 (.bool false) hHeld ?_
    try simp only [Act.put,Ap,Ah,Ag,Ae,Aj,Aq]
    refine wpAnyH_done Γ ?_ _;refine⟨nofun,?_⟩;have RH:=Aa hM;have uQ:=Aa WV;have y5:=hHeld.1;have k5:=(HC.out.box.touch hM.touch HC.out.fj);have kx:=HBx.out.touch hM.touch nBx;clear WV Ot hM hS5 hHeld nG HUn q0 y0 x0 x1 j1 j4;have j1:=k5.cell 1;have x1:=kx.cell 1;unfold DN at j1;simp only [Am,AA]at j1 x1;have HJ5:=Aa k5;have HY5:=Aa kx;have Jz:=Aa (HB2.out.touch RH.out.touch nB2);clear k5 kx;have n5:¬F5 w.heap.size:=RH.out.out HB2.out.lt nB2;have n5x:¬F5 Bx:=RH.out.out HBx.out.lt nBx;have n5j:¬F5 jb:=RH.out.out HC.out.box.lt HC.out.fj;have hof: -9223372036854775808<=Bj px.2/\Bj px.2<=9223372036854775807:=Qu px.2;have mY:=Aa (λW'(k:η w5 W')=>Wy (uQ.out.sys.below k) (Bj px.2) hof);have HKq:Hid (∀w6 F6,AP F5 F6 w5.drew w6->AP F5 F6 w5 w6/\(w6.cell? (Φ w.heap.size)=some (Az jb)/\w6.cell? (Δ jb 1)=some (Az p)/\w6.cell? (Δ Bx 1)=some (.int .u64 (px.2.toNat:Int)))):=Aa (λw6 F6 hm=>by
     have m:AP F5 F6 w5 w6:=(AP.of_below ((Dr.drew w5).below _)).trans hm;have bl:∀b,b<w5.heap.size->¬F5 b->w6.heap[b]? =w5.heap[b]? :=λb hb hn=>m.touch.block b hb hn
     exact⟨m,(BA (bl _ Jz.out.lt n5)).trans y5,(BA (bl _ HJ5.out.lt n5j)).trans j1,(BA (bl _ HY5.out.lt n5x)).trans x1⟩)
    clear hof;gi_wp2;refine I9 (S:=(λw'=>w'.cell? (Φ w.heap.size)=some (Az jb)/\w'.cell? (Δ jb 1)=some (Az p)/\w'.cell? (Δ Bx 1)=some (.int .u64 (px.2.toNat:Int)))) Γ Γ ⟨y5,j1,x1⟩ (λhHeld=> ?_);refine Eo 0 (Az jb) hHeld (hy:=λw hSw=>by obtain⟨s0,s1,s2⟩:=hSw;go_simp) ?_;refine Eo 1 (Az jb) hHeld ?_;refine Eo 2 (.pointer (some (Δ jb 1))) hHeld ?_;refine Eo 3 (Az p) hHeld (hy:=λw hSw=>by obtain⟨s0,s1,s2⟩:=hSw;go_simp) ?_
    try simp only [Act.put,Ap,Ah,Ag,Ae,Aj,Aq]
    refine Eo 4 (.pointer (some (Δ Bx 1))) hHeld ?_;refine Eo 5 (.int .u64 (px.2.toNat:Int)) hHeld (hy:=λw hSw=>by obtain⟨s0,s1,s2⟩:=hSw;go_simp) ?_;refine Eo 6 (.int .i64 (Bj px.2)) hHeld (hy:=λw hSw=>by clear hSw;go_simp;rfl) ?_
    try simp only [Act.put,Ap,Ah,Ag,Ae,Aj,Aq]
    refine wpAnyH_ready (rs:=[7]) Γ Θ ?_;refine AllReadyH.cons rfl (λK hK=> ?_) AllReadyH.nil;go_simp;go_at_call 73;refine(mY.out _ ((Dr.drew w5).below _)).mono ?_;rintro e w6⟨rfl,F6,Atp,nJ⟩;obtain⟨hM,hS6⟩:=HKq.out w6 F6 nJ;refine hK.out _ _ (hS6) (λhHeld=> ?_);clear hK K
    try simp only [Act.put,Ap,Ah,Ag,Ae,Aj,Aq]
    refine wpAnyH_done Γ ?_ _;refine⟨nofun,?_⟩;have U2:=Aa hM;have nM:=Aa (uQ.out.move Atp hM);clear Atp nJ hM hS6 hHeld HKq mY;gi_wp2;have mm:AP F' F6 W w6:=RH.out.trans U2.out;obtain⟨c6,m6⟩:=HC.out.move (HS2.out▸nM.out) mm;exact⟨QT _ mm.touch (λb hb _=>HC.out.ix.sys.cells hb),⟨mm.touch.block _ hgW ng,mm.touch.block _ HBn.out.lt nBn⟩,⟨⟨F6,by rw [HMd.out];exact c6,HM.out.trans m6⟩,⟨HB2.out.touch mm.touch nB2,HBn.out.touch mm.touch nBn⟩,Bc hsz mm.touch.size⟩⟩
   ·have t5:(r5==0)=false:=by rw [beq_eq_false_iff_ne];exact mV
    have hbd:=sJ.out mV;have HB:=Aa hbd;clear sJ HS2 hbd;refine I9 (S:=(λw'=>w'.cell? (Φ w.heap.size)=some (Az jb)/\w'.cell? (Δ jb 4)=some (.slice (some (Δ b2 off)) l.length c2)/\w'.cell? (Δ b2 (off+x.1*3))=some (.string yx.key)/\w'.cell? (Φ Bx)=some (.int .u64 (px.1.toNat:Int)))) Γ Γ ⟨y0,j4,q0,x0⟩ (λhHeld=> ?_);refine Eo 0 (Az jb) hHeld (hy:=λw hSw=>by obtain⟨s0,s1,s2,s3⟩:=hSw;go_simp) ?_;refine Eo 1 (Az jb) hHeld (hy:=λw hSw=>by obtain⟨s0,s1,s2,s3⟩:=hSw;go_simp) ?_;refine Eo 2 (Az jb) hHeld ?_;refine Eo 3 (.pointer (some (Δ jb 4))) hHeld ?_
    try simp only [Act.put,Ap,Ah,Ag,Ae,Aj,Aq]
    refine Eo 4 (.slice (some (Δ b2 off)) l.length c2) hHeld (hy:=λw hSw=>by obtain⟨s0,s1,s2,s3⟩:=hSw;go_simp) ?_;refine Eo 5 (.int .i64 (x.1:Int)) hHeld ?_;refine Eo 6 (.pointer (some (Δ b2 (off+x.1*3)))) hHeld ?_;refine Eo 7 (.pointer (some (Δ b2 (off+x.1*3)))) hHeld ?_
    try simp only [Act.put,Ap,Ah,Ag,Ae,Aj,Aq]
    refine Eo 8 (.string yx.key) hHeld (hy:=λw hSw=>by obtain⟨s0,s1,s2,s3⟩:=hSw;go_simp) ?_;refine Eo 9 (Az Bx) hHeld ?_;refine Eo 10 (.int .u64 (px.1.toNat:Int)) hHeld (hy:=λw hSw=>by obtain⟨s0,s1,s2,s3⟩:=hSw;go_simp) ?_
    try simp only [Act.put,Ap,Ah,Ag,Ae,Aj,Aq]
    refine wpAnyH_ready (rs:=[11]) Γ Θ ?_;refine AllReadyH.cons rfl (λK hK=> ?_) AllReadyH.nil;go_simp;go_at_call 143;refine(HUn.out _ ((Dr.drew W).below _)).mono ?_;rintro e w5⟨rfl,F5,WV,Ot⟩;obtain⟨hM,hS5⟩:=nG.out w5 F5 Ot;refine hK.out _ _ (hS5) (λhHeld=> ?_);clear hK K
    try simp only [Act.put,Ap,Ah,Ag,Ae,Aj,Aq]
    refine Eo 12 (.bool true) hHeld ?_
    try simp only [Act.put,Ap,Ah,Ag,Ae,Aj,Aq]
    refine wpAnyH_done Γ ?_ _;refine⟨nofun,?_⟩;have RH:=Aa hM;clear WV Ot hM hS5 hHeld nG HUn;gi_wp2;exact⟨QT _ RH.out.touch (λb hb _=>HC.out.ix.sys.cells hb),⟨rfl,pre,x,rfl,HB.out⟩⟩
 case done=>
  rintro D xs W hD rfl⟨⟨F',hC,hM⟩,⟨hB2,hBn⟩,hsz⟩hDf;have y0:=hB2.p1;have f6:=hC.box.frozen 6;have f7:=hC.box.frozen 7;have y6:=hC.box.cell 6;have y7:=hC.box.cell 7;unfold DN at y6 y7;simp only [Am,AA]at y6 y7;have HC:=Aa hC;have HM:=Aa hM;clear hC hM hB2 hBn;gi_wp2;refine wpIn_wide.2 ?_;go_region;have hK2:=(KeepsOthers.setCell (W.setCell (Δ jb 6) (.bool true)) (Δ jb 7) (.int .i64 er)).same D _ ((KeepsOthers.setCell W (Δ jb 6) (.bool true)).same D _ hDf rfl) rfl;gi_wp2;refine⟨by simp,.inl ⟨_,_,rfl,run_takeDeferred hK2,?_⟩⟩;refine⟨.int .i64 er,by simp [results,results94,go_sem],rfl,F',?_⟩;obtain⟨c6,m6⟩:=HC.out.ends er;have hbd:=((Dr.drew ((W.setCell (Δ jb 6) (.bool true)).setCell (Δ jb 7) (.int .i64 er))).below ((W.setCell (Δ jb 6) (.bool true)).setCell (Δ jb 7) (.int .i64 er)).heap.size);have hK3:((W.setCell (Δ jb 6) (.bool true)).setCell (Δ jb 7) (.int .i64 er)).drew.heap[D]? =some (.deferred (some [])):=hK2;have c7:=(c6.below hbd).abide (grownBy_putObj' _ D (.deferred none)) (λr e=>by
   cases e
   rintro⟨o,h1,h2⟩;rw [hK3]at h1;injection h1 with h1
   rw [<-h1]at h2;cases h2)
  refine⟨c7,((HM.out.trans m6).below hbd).touch.trans (KQ (grownBy_putObj' _ D (.deferred none))) (λb e=> ?_),λb hb=>((HM.out.trans m6).own b hb)⟩;cases e
  exact .inr O
 case stop=>
  rintro D e pre W hD hpre⟨rfl,sH,x,rfl,hbad⟩hK;exfalso;have hpl2:sH.length+1<=ps.length:=by have:=hpre.length_le;rw [Og _ _ (Ad _),AQ]at this;exact this
  have e1:sH++[x]=FP ps.length (sH.length+1):=by
   have h2:=U4 ps.length (sH.length+1) ps.length hpl2;exact(List.prefix_of_prefix_length_le hpre h2 (by rw [Og _ _ hpl2,AQ];exact Ad _)).eq_of_length (by rw [Og _ _ hpl2,AQ];rfl)
  rw [OE _ _ O]at e1;obtain⟨e2,e3⟩:=List.append_inj' e1 rfl;injection e3 with e3 _
  refine jX.out sH.length O ?_;rw [<-e2,<-e3];exact hbad
end Go.Proofs.YtkimaejoeapmnaaGreatDoor
namespace Go.Proofs.YtkimaejoeapmnaaGreatDoor
open Go.Proofs.Tryz
open Go.RowKit
section
variable{w:World}{x d p L:Nat}{s:St}{F:Nat->Prop}
def Ad9 (h : Ix w x d p L s F) {items : List Kv} {ch : List UInt8 -> List Lk} (hs : Ce L s items ch) {jb : Nat} {stamp : UInt64} {vs vd : Value} {en : Int} (hj : Nl w jb x d p stamp vs vd false en F) (y : Wr) (hy : Dz y = true) (hs0 : stamp.toNat ≠ 0) :
    Calls prog 93 #[Az jb, U1 y] w λe w' => e = .returned (.tuple #[.agg #[.int .u64 ((Ej s stamp y).2.1.toNat : Int), .int .u64 ((Ej s stamp y).2.2.1.toNat : Int)], .int .i64 (Ej s stamp y).2.2.2]) /\
      ∃ F', Ix w' x d p L (Ej s stamp y).1 F' /\ Nl w' jb x d p stamp vs vd false en F' /\ AP F F' w w' := by
  have hyk : y.key.size <= 16 /\ y.text.size <= 40 /\ (y.gone = true -> y.text.size = 0) := by
    unfold Dz at hy
    simp only [Bool.and_eq_true, decide_eq_true_eq, Bool.or_eq_true, Bool.not_eq_true'] at hy
    exact ⟨hy.1.1, hy.1.2, λhg => hy.2.resolve_left (by rw [hg]; simp)⟩
  have hget : ∃ v e, Gy s y.key.data.toList = (v, e) /\ ((v = 0 /\ e = 7) \/ (v ≠ 0 /\ e = 0)) := by
    rcases yO hs.ix y.key.data.toList hyk.1 with ⟨v, e, hm, hv⟩ | ⟨e, hn⟩
    · exact ⟨v, 0, e, .inr ⟨hv, rfl⟩⟩
    · exact ⟨0, 7, e, .inl ⟨rfl, rfl⟩⟩
  obtain ⟨v, e, hg, hve⟩ := hget
  have he : ¬ (e ≠ 0 /\ e ≠ 7) := by rcases hve with ⟨_, rfl⟩ | ⟨_, rfl⟩ <;> decide
  have hr : Eb ⟨stamp, v, y.gone, y.text⟩ = true := (Ky _).2 ⟨hs0, hyk.2.1, hyk.2.2⟩
  have hv0 : e = 0 -> v.toNat ≠ 0 := λh0 h1 => by
    rcases hve with ⟨_, rfl⟩ | ⟨h2, _⟩
    · cases h0
    · exact h2 (Ec.1 h1)
  by_cases hgv : y.gone = true /\ v = 0
  · have e1 : Ej s stamp y = (s, 0, 0, 0) := by
      unfold Ej
      rw [hg]
      simp only
      rw [if_neg he, if_pos hgv]
    rw [e1]
    obtain ⟨rfl, rfl⟩ := hve.resolve_right (λh => h.1 hgv.2)
    exact dV h hj y hyk.1 hyk.2.1 hg hgv.1
  · have hVe : (e = 7 /\ v = 0 /\ y.gone = false) \/ (e = 0 /\ v.toNat ≠ 0) := by
      rcases hve with ⟨h1, h2⟩ | ⟨_, h2⟩
      · refine .inl ⟨h2, h1, ?_⟩
        cases hgn : y.gone with
        | false => rfl
        | true => exact absurd ⟨hgn, h1⟩ hgv
      · exact .inr ⟨h2, hv0 h2⟩
    rcases Aht hs.ix ⟨stamp, v, y.gone, y.text⟩ hr with ea | ⟨s1, o, ea, hT, _, _, YN, ho0, _, _, ix1, _, _, _⟩
    · have e1 : Ej s stamp y = (s, 0, 0, 6) := by
        unfold Ej
        rw [hg]
        simp only
        rw [if_neg he, if_neg hgv, ea]
        simp only
        rw [if_pos U]
      rw [e1]
      have hT : ∀ off s1, CO s 1 = some (off, s1) -> (Ib { s1 with ws := BO s1.ws (off / 8) (Dj ⟨stamp, v, y.gone, y.text⟩) } off).2 = 0 := λoff t ht => by
        have hr' := hr
        unfold IZ at ea
        rw [if_neg (by rw [hr']; simp), ht] at ea
        simp only at ea
        obtain ⟨ok1, hw1, aY, TJ, hh1, _, hh2, ht1⟩ := Oi hs.ix.ok (.inl rfl) ht
        have hb1 := hh1.bounds ok1
        have hput : ∀ i, ¬ GR off 1 i -> BO t.ws (off / 8) (Dj ⟨stamp, v, y.gone, y.text⟩) i = t.ws i := λi hi => by
          unfold BO
          rw [if_neg]
          intro h
          have hl1 : Bf 1 = 1 := rfl
          exact hi ⟨h.1, by rw [Iw] at h; omega⟩
        have hl1 : Bf 1 = 1 := rfl
        have hnot : ∀ i, i < 16 + t.sh.BM -> ¬ GR off 1 i := λi hi h => by
          have htf := ok1.sh.Le
          unfold GR at h; omega
        have UA : Bz L ({ t with ws := BO t.ws (off / 8) (Dj ⟨stamp, v, y.gone, y.text⟩) } : St) := ok1.words (λi hi => hput _ (hnot _ O))
        have lC : EK ({ t with ws := BO t.ws (off / 8) (Dj ⟨stamp, v, y.gone, y.text⟩) } : St) off 1 := hh1
        obtain ⟨s2, e2, _⟩ := YI UA lC
        rw [e2]
      exact (NG h hj y hyk.1 hyk.2.1 hg hVe hT (er := 6) (Nu := 0) (s2 := s) (s3 := s) ea (λh0 => absurd h0 U) (λh0 => absurd h0 U)).mono λe w' hh => hh
    · have hone : Aw o ≠ 0 := λe => by
        have := congrArg UU e
        rw [DU O] at this
        simp at this
        omega
      have hpl : (Aw o).toNat <= 65536 := by rw [DU O]; exact YN
      obtain ⟨_, hput⟩ := lF ix1 y.key.data.toList hyk.1 (Aw o) hone
      obtain ⟨rp, hrp⟩ : ∃ rp, rp = KJ s1 y.key.data.toList (Aw o) := ⟨_, rfl⟩
      rw [<- hrp] at hput
      obtain ⟨s2, e2⟩ := rp
      simp only at hput
      rcases hput with ⟨rfl, _, _⟩ | ⟨rfl, _, _, _⟩
      · have e1 : Ej s stamp y = ((IE s2 (Bj (Aw o))).1, 0, 0, 6) := by
          unfold Ej
          rw [hg]
          simp only
          rw [if_neg he, if_neg hgv, ea]
          simp only
          rw [if_neg Θ, <- hrp]
          simp only
          rw [if_pos U]
        rw [e1]
        exact (NG h hj y hyk.1 hyk.2.1 hg hVe hT (er := 0) (Nu := 6) ea (λ_ => hrp.symm) (λ_ _ => rfl)).mono λe w' hh => hh
      · have e1 : Ej s stamp y = (s2, v, Aw o, 0) := by
          unfold Ej
          rw [hg]
          simp only
          rw [if_neg he, if_neg hgv, ea]
          simp only
          rw [if_neg Θ, <- hrp]
          simp only
          rw [if_neg Θ]
        rw [e1]
        exact (NG h hj y hyk.1 hyk.2.1 hg hVe hT (er := 0) (Nu := 0) (s3 := s2) ea (λ_ => hrp.symm) (λ_ h0 => absurd rfl h0)).mono λe w' hh => hh
end
def Om(s:St)(q:Past):St:=if q.2.2=0 then s else(IE (J4 s q.1.data.toList q.2.1).1 (Bj q.2.2)).1
def Aea{L:Nat}{items:List Kv}{ch:List UInt8->List Lk}{l:List Past}{it:List Kv}{c:List UInt8->List Lk}(h:Hist L items ch l it c):∀{s:St},Ce L s it c->
 LM s l.reverse=l.reverse.foldl Om s/\∀k(hk:k<l.reverse.length),l.reverse[k].2.2≠0->(J4 ((l.reverse.take k).foldl Om s) l.reverse[k].1.data.toList l.reverse[k].2.1).2=0:=by
 have cons:∀(q:Past)(r:List Past)(s:St),(q.2.2≠0->(J4 s q.1.data.toList q.2.1).2=0)->(LM (Om s q) r=r.foldl Om (Om s q)/\∀k(hk:k<r.length),r[k].2.2≠0->(J4 ((r.take k).foldl Om (Om s q)) r[k].1.data.toList r[k].2.1).2=0)->
  LM s (q::r)=(q::r).foldl Om s/\∀k(hk:k<(q::r).length),(q::r)[k].2.2≠0->(J4 (((q::r).take k).foldl Om s) (q::r)[k].1.data.toList (q::r)[k].2.1).2=0:=λq r s h0 h1=>by
  obtain⟨key,v,place⟩:=q;refine⟨?_,λk hk=> ?_⟩
  ·rw [SN,<-h1.1];unfold Om;simp only;by_cases hp:place=0
   ·rw [LM,if_pos hp,if_pos hp]
   ·rw [LM,if_neg hp,if_neg hp,if_neg (by rw [h0 hp];simp)]
  ·cases k with
   | zero=>exact h0
   | succ k=>
     intro hz;rw [List.take_succ_cons,SN];exact h1.2 k (by simpa using hk) hz
 induction h with
 | nil=>exact λ_=>⟨rfl,λk hk=>absurd hk Θ⟩
 | skip key _ ih=>
   intro s hs;rw [UW,Rn,TF];exact cons _ _ s (λh=>absurd rfl h) (by unfold Om;rw [if_pos rfl];exact ih hs)
 | add hh hs0 hk ho ho0 YN hp hcase ih=>
   intro s hs;rw [UW,Rn,TF];obtain⟨s1,s2,e1,e2,hs2,_⟩:=iT hs0 hk ho hp hs hcase;rename_i o _ _;have hne:Aw o≠0:=λe=>by
    have:=congrArg UU e;rw [DU O]at this;simp at this;omega
   refine cons _ _ s (λ_=>by rw [e1]) ?_;unfold Om;simp only;rw [if_neg hne,e1,MV YN,e2];exact ih hs2
section
variable{l:List Wr}{ps:List (UInt64×UInt64)}{hpl:ps.length<=l.length}{done:List Past}{s:St}
def Aeb(hd:ps=done.map Prod.snd)(hk:∀i(h:i<done.length)(h2:i<l.length),done[i].1=l[i].key)(t:St)(i:Nat)(hi:i<ps.length)(hi2:i<done.length):VL l ps hpl t ⟨i,hi⟩=Om t done[i]:=by
 unfold VL Om;have e1:ps[i]=done[i].2:=by subst hd;simp
 simp only [e1,hk i hi2 O]
def SK(hd:ps=done.map Prod.snd)(hk:∀i(h:i<done.length)(h2:i<l.length),done[i].1=l[i].key):∀k,k<=ps.length->J8 l ps hpl s (FP ps.length k)=(done.reverse.take k).foldl Om s
 | 0,_=>rfl
 | k+1,h=>by
   have hlen:ps.length=done.length:=by rw [hd];simp
   rw [OE _ _ O,XR,SK hd hk k O,List.take_succ_eq_append_getElem (by rw [Io];omega),Ae2,Aeb hd hk _ _ _ O];have e:done.reverse[k]'(by rw [Io];omega)=done[ps.length-1-k]' O:=by
    rw [uX];congr 1;omega
   rw [SN,List.foldl_nil,e]
def Ah5{L:Nat}{items:List Kv}{ch:List UInt8->List Lk}{it:List Kv}{c:List UInt8->List Lk}(h:Hist L items ch done it c)(hs:Ce L s it c)(hd:ps=done.map Prod.snd)(hk:∀i(h:i<done.length)(h2:i<l.length),done[i].1=l[i].key):
 J8 l ps hpl s (FP ps.length ps.length)=LM s done.reverse/\∀k(hk:k<ps.length),¬VM l ps hpl s (FP ps.length k) ⟨ps.length-1-k,O⟩:=by
 have hlen:ps.length=done.length:=by rw [hd];simp
 obtain⟨g1,g2⟩:=Aea h hs;refine⟨?_,λk hkl hb=> ?_⟩
 ·rw [SK hd hk _ (Ad _),g1,List.take_of_length_le (by rw [Io];omega)]
 ·obtain⟨b1,b2⟩:=hb;have e:done.reverse[k]'(by rw [Io];omega)=done[ps.length-1-k]' O:=by
   rw [uX];congr 1;omega
  have e1:ps[ps.length-1-k]' O=(done[ps.length-1-k]' O).2:=by subst hd;simp
  have hx:=g2 k (by rw [Io];omega);rw [e]at hx;rw [SK hd hk _ O]at b2;simp only [e1]at b1 b2;rw [<-hk _ O O]at b2;exact b2 (hx b1)
end
section
variable{w w':World}{base jb x d p L:Nat}{s:St}{stamp:UInt64}{vs:Value}{l:List Wr}{ps:List (UInt64×UInt64)}{over:Bool}{en:Int}{F:Nat->Prop}{v:Value}
def sK{m0 m1:DY}{er:Int}(her:er≠0)(h:Fz m0 w base jb x d p L s stamp vs l ps false en F v)(hpl:ps.length<=l.length)(hlt:ps.length<l.length)(Akv:l.length<=100000)(hkey:∀y∈l,y.key.size<=1000){s2:St}
 (hwr:∀W',η w W'->Calls prog 93 #[Az jb,U1 l[ps.length]] W' λe w''=>e= .returned (.tuple #[.agg #[.int .u64 0,.int .u64 0],.int .i64 er])/\
  ∃F',Jd m1 w'' x d p L s2 F'/\Nl w'' jb x d p stamp vs v false en F'/\AP F F' W' w'')
 (hmd:ps.length=0\/m1= .up M0)(hok:∀k(hk:k<ps.length),¬VM l ps hpl s2 (FP ps.length k) ⟨ps.length-1-k,O⟩):
 Calls prog 47 #[Az jb] w λe w'=>e= .returned (.tuple #[.bool true,.int .i64 er])/\
  ∃F',Fz m1 w' base jb x d p L (J8 l ps hpl s2 (FP ps.length ps.length)) stamp vs l ps true er F' v/\AP (JG F jb v) (JG F' jb v) w w':=by
 have HL:=Aa Akv;have HHk:=Aa hkey;have jX:=Aa hok;have te:(er==0)=false:=by rw [beq_eq_false_iff_ne];exact her
 clear her;clear hkey hok;have HN:=Aa (kZ jb _ h.box);have j6:=h.box.cell 6;have j5:=h.box.cell 5;have j4:=h.box.cell 4;have HH:=Aa h;obtain⟨A5,c5,hv5,hc5,_⟩:=DL h.row;obtain⟨y,hy⟩:∃y,y=l[ps.length]:=⟨_,rfl⟩;obtain⟨b2,off,c2,hv2,hc2,hbw,hnG,q0,q1,q2⟩:=h.set.at ps.length hlt;rw [<-hy]at q0 q1 q2 hwr;obtain⟨k,hk⟩:∃k,k=ps.length:=⟨_,rfl⟩;obtain⟨n,hn⟩:∃n,n=l.length:=⟨_,rfl⟩;rw [<-hn]at hv2 Akv hlt;rw [<-hk]at hv5 q0 q1 q2 hlt hc5;unfold DN at j4 j5 j6;simp only [Am,AA]at j4 j5 j6;rw [hv2]at j4;rw [hv5]at j5;obtain⟨hx1,hx2,hx5⟩:=Yg hlt;have QX:Hid (∀W',η w W'->W'.cell? (Δ jb 4)=some (.slice (some (Δ b2 off)) n c2)/\W'.cell? (Δ jb 5)=some (.slice A5 k c5)/\W'.cell? (Δ b2 (off+k*3))=some (.string y.key)/\W'.cell? (Δ b2 (off+k*3+1))=some (.string y.text)/\W'.cell? (Δ b2 (off+k*3+2))=some (.bool y.gone)):=Aa (λW' kk=>
  ⟨by rw [(h.box.ξ kk).cell 4,<-hv2];rfl,by rw [(h.box.ξ kk).cell 5,<-hv5];rfl,(BA (w:=w) (kk.block _ hbw)).trans q0,(BA (w:=w) (kk.block _ hbw)).trans q1,(BA (w:=w) (kk.block _ hbw)).trans q2⟩)
 have HWr:=Aa hwr;unfold U1 at HWr;have hjlt:=h.box.lt;have HFn:Hid (¬F w.heap.size):=Aa (λhf=>absurd (h.ix.sys.lt _ hf) O);have qE:Hid (0≠w.heap.size/\1≠w.heap.size):=Aa (Ω h.ix.sys.tabs.lt);have HXl:Hid (x≠w.heap.size):=Aa (Ω h.ix.box.lt);have HK:=Aa hk;clear h hwr hc2 hnG hk hn hy hv2 hv5;go_enter func47,ntmps47
 go_wp2_with fail
 refine HN.out.mono ?_;rintro e w1⟨rfl,rfl⟩
 go_wp2_with fail
 go_region
 all_goals(go_wp2_with fail)
 all_goals(
  go_region_with(go_at_call 93;refine(HWr.out _ (by first| exact((Dr.drew w).trans (Dr.drew _)).below _| exact(((Dr.drew w).trans (Dr.drew _)).below _).alloc (Ad _) _| exact((((Dr.drew w).below _).alloc (Ad _) _).drew))).mono ?_;rintro e w5⟨rfl,F5,WV,hJ5,Ot⟩;try(have zb:CS w5 w.heap.size 189 [.int .u64 0,.int .u64 0]:=(Ot.touch.block w.heap.size Θ HFn.out).trans (heap_alloc_new _ _);have z0:=zb.cell 0;have z1:=zb.cell 1;have Yt:=zb.frozen 0;have Yu:=zb.frozen 1;simp only [Am,AA]at z0 z1)))
 all_goals(
  first
  | (have hwb:η w _:=((Dr.drew w).trans (Dr.drew _)).below w.heap.size
     have hM0:AP F F5 w w5:=(AP.of_below hwb).trans Ot;obtain⟨W6,QY⟩:∃W6,W6=w5.alloc (.cells #[.int .u64 0,.int .u64 0] 189):=⟨_,rfl⟩;rw [<-QY];have hb6:η w5 W6:=QY▸(Below.refl _ _).alloc (Ad _) _;have P6:CS W6 w5.heap.size 189 [.int .u64 0,.int .u64 0]:=QY▸heap_alloc_new _ _;have X6:=WV.below hb6;have M6:AP F F5 w W6:=hM0.below hb6;obtain⟨g,hg⟩:∃g,g=w5.heap.size:=⟨_,rfl⟩;rw [<-hg]at P6⊢;clear hwb hM0 QY hb6 hg WV hJ5 Ot)
  | (have hwb:η w _:=(((Below.refl w.heap.size w).alloc (Ad _) (.cells #[.int .u64 0,.int .u64 0] 189)).drew).drew
     have hM0:AP F F5 w w5:=(AP.of_below hwb).trans Ot;obtain⟨W6,QY⟩:∃W6,W6=(w5.setCell (Φ w.heap.size) (.int .u64 0)).setCell (Δ w.heap.size 1) (.int .u64 0):=⟨_,rfl⟩;rw [<-QY];have t6:Touch (λk=>k=w.heap.size) w5 W6:=QY▸((Touch.refl (λk=>k=w.heap.size) w5).setCell (p:=Φ w.heap.size) (.inl rfl) _).setCell (p:=Δ w.heap.size 1) (.inl rfl) _;have P6:CS W6 w.heap.size 189 [.int .u64 0,.int .u64 0]:=by rw [QY];exact(zb.AZ 0 (.int .u64 0)).AZ 1 (.int .u64 0)
     have hnf:¬F5 w.heap.size:=λh6=>(Ot.own _ h6).elim HFn.out (λhs=>absurd hs Θ)
     have X6:Jd m1 W6 x d p L s2 F5:=⟨WV.sys.keep t6 (λb hb e=>hnf (e▸hb)) qE.out.1 qE.out.2,WV.box.touch t6 HXl.out,WV.out⟩;have M6:AP F F5 w W6:=by rw [QY];exact(hM0.set (p:=Φ w.heap.size) (.inr (Ad _)) _).set (p:=Δ w.heap.size 1) (.inr (Ad _)) _
     obtain⟨g,hg⟩:∃g,g=w.heap.size:=⟨_,rfl⟩;rw [<-hg]at P6⊢;clear hwb hM0 QY t6 hnf hg WV hJ5 Ot zb z0 z1 Yt Yu))
 all_goals(
  obtain⟨lh,hMJ⟩:=HH.out.move X6 M6;have p0:=P6.cell 0;have p1:=P6.cell 1;obtain⟨A6,c6,hv6,_,_⟩:=DL lh.row;have HF:=Aa (λW'(kb:η W6 W')=>Alh (A:=A6) (c:=c6) (by rw [<-hv6];exact lh.below kb) hmd hpl HL.out HHk.out er jX.out);rw [<-hv6]at HF;have HMJ:=Aa hMJ;clear X6 M6 P6 j4 j5 j6 q0 q1 q2 HWr QX HN HFn lh hMJ hv6
  go_wp2_with fail
  refine(HF.out _ (Below.refl _ _)).mono ?_;rintro e w7⟨rfl,F7,hC7,hM7⟩;have HC7:=Aa hC7;have YF:=Aa hM7;clear hC7 hM7 HF p0 p1
  go_wp2_with fail
  go_ret2;exact⟨rfl,F7,HC7.out,HMJ.out.trans YF.out⟩)
end
section
variable{w:World}{base jb x d p L:Nat}{s0:St}{stamp:UInt64}{vs:Value}{l:List Wr}{F:Nat->Prop}{v:Value}{items:List Kv}{ch:List UInt8->List Lk}{j:yQ}
def QE(l:List Wr)(done:List Past):Prop:=∀i(_:i<done.length)(_:i<l.length),done[i].1=l[i].key
def QE.app{done:List Past}(h:QE l done)(hl:done.length<l.length)(v q:UInt64):QE l (done++[(l[done.length].key,v,q)]):=λi h1 h2=>by
 by_cases hi:i<done.length
 ·rw [List.getElem_append_left hi];exact h i hi h2
 ·obtain rfl:i=done.length:=by simp at h1;omega
  simp
def Ah6(w:World)(base jb x d p L:Nat)(s0:St)(stamp:UInt64)(vs:Value)(l:List Wr)(F:Nat->Prop)(v:Value)(items:List Kv)(ch:List UInt8->List Lk)(n:Nat)(e:Ending)(w':World):Prop:=
 (e= .returned (.tuple #[.bool false,.int .i64 0])/\n<l.length/\∃(j':yQ)(F':Nat->Prop)(v':Value),iU L s0 items ch stamp l j'/\QE l j'.done/\j'.done.length=n+1/\Adb w' base jb x d p L j'.s stamp vs l (j'.done.map Prod.snd) false 0 F' v'/\AP (JG F jb v) (JG F' jb v') w w')\/
 (e= .returned (.tuple #[.bool true,.int .i64 6])/\∃(s':St)(F':Nat->Prop),Ce L s' items ch/\Np s0 s'/\Ix w' x d p L s' F'/\AP (JG F jb v) (JG F' jb v) w w')\/
 (e= .returned (.tuple #[.bool true,.int .i64 0])/\∃(s':St)(F':Nat->Prop),s'.ws 8=stamp/\s'.sh=s0.sh/\(∀i,i<16->i≠8->i≠9->s'.ws i=s0.ws i)/\(∃it c,Ce L s' it c/\∀k,∀y∈c k,y.rc.stamp.toNat<=stamp.toNat)/\Ix w' x d p L s' F'/\AP (JG F jb v) (JG F' jb v) w w')
def yX(h:Adb w base jb x d p L j.s stamp vs l (j.done.map Prod.snd) false 0 F v)(hj:iU L s0 items ch stamp l j)(hk:QE l j.done)(hr:∀y∈l,Dz y=true)(hu:af l)(hl:l.length<=100000)(hs0:stamp.toNat≠0)(hst:∀k,∀y∈ch k,y.rc.stamp.toNat<stamp.toNat):
 Calls prog 47 #[Az jb] w (Ah6 w base jb x d p L s0 stamp vs l F v items ch j.done.length):=by
 have hkey:∀y∈l,y.key.size<=1000:=λy hy=>by
  have:=hr y hy;unfold Dz at this;simp only [Bool.and_eq_true,decide_eq_true_eq]at this;omega
 have hstep:=step_ok hj hr hu hs0 hst;obtain⟨⟨it,c,hh,hs,hc,hle⟩,hlow,hlen,hrun,hend⟩:=hj;have hpl:(j.done.map Prod.snd).length=j.done.length:=by simp
 by_cases hlt:j.done.length<l.length
 ·have hlt':(j.done.map Prod.snd).length<l.length:=by rw [hpl];exact hlt
  obtain⟨y,hy⟩:∃y,y=l[j.done.length]:=⟨_,rfl⟩;have hyy:l[(j.done.map Prod.snd).length]'hlt'=y:=by rw [hy];congr 1
  have hyr:Dz y=true:=hr y (hy▸BI hlt);have hw:∀W',η w W'->Calls prog 93 #[Az jb,U1 y] W' λe w''=>e= .returned (.tuple #[.agg #[.int .u64 ((Ej j.s stamp y).2.1.toNat:Int),.int .u64 ((Ej j.s stamp y).2.2.1.toNat:Int)],.int .i64 (Ej j.s stamp y).2.2.2])/\
   ∃F',Ix w'' x d p L (Ej j.s stamp y).1 F'/\Nl w'' jb x d p stamp vs v false 0 F'/\AP F F' W' w'':=λW' k=>
   Ad9 (h.ix.below k) hs (h.below k).b y hyr hs0
  unfold Nv at hstep;rw [if_neg (by rw [hrun];decide),Af hlt]at hstep;simp only [<-hy]at hstep;by_cases hc0:(Ej j.s stamp y).2.2.2=0
  ·rw [if_neg (by rw [hc0];simp)]at hstep;rw [hc0]at hw;refine(qV (pv:=(Ej j.s stamp y).2.1) (pl:=(Ej j.s stamp y).2.2.1) (s2:=(Ej j.s stamp y).1) h hlt' hl (by rw [hyy];exact hw)).mono ?_;rintro e w'⟨rfl,F',v',hC,hM⟩;rcases hstep with⟨_,_,hd,hok⟩| ⟨_,e2,_⟩| ⟨e2,_⟩
   ·refine .inl ⟨rfl,hlt,_,F',v',hok,?_,hd,?_,hM⟩
    ·show QE l (j.done++[(y.key,_,_)]);rw [hy];exact hk.app hlt _ _
    ·simp only [List.map_append,List.map_cons,List.map_nil];exact hC
   ·cases e2
   ·omega
  ·rw [if_pos hc0]at hstep;rcases hstep with⟨_,e2,_⟩| ⟨_,e2,_,hok,hlo⟩| ⟨e2,_⟩
   ·cases e2
   ·simp only [Prod.mk.injEq,true_and]at e2;have hwr:=VJ hs stamp y hyr hs0 (λz hz=>by rw [hc j.done.length (Ad _) y (by rw [hy];exact Af hlt)]at hz;exact hst _ z hz);rcases hwr.2 with⟨e3,hs'⟩| ⟨e3,_⟩| ⟨o,v3,_,e3,_⟩
    ·have e4:(Ej j.s stamp y).2.1=0/\(Ej j.s stamp y).2.2.1=0:=by rw [e3];exact⟨rfl,rfl⟩
     rw [e4.1,e4.2,e2]at hw;obtain⟨u1,u2⟩:=Ah5 (hpl:=by rw [hpl];omega) hh hs' rfl hk;refine(sK (s2:=(Ej j.s stamp y).1) (er:=6) U h (by rw [hpl];omega) hlt' hl hkey (by rw [hyy];exact hw) (.inr rfl) u2).mono ?_;rintro e w'⟨rfl,F',hC,hM⟩;rw [u1]at hC;exact .inr (.inl ⟨rfl,_,F',hok,hlo,hC.ix,hM⟩)
    ·rw [e3]at hc0;exact absurd rfl hc0
    ·rw [e3]at hc0;exact absurd rfl hc0
   ·omega
 ·have hle2:j.done.length=l.length:=O
  refine(aQ h (by rw [hpl];exact hle2)).mono ?_;rintro e w'⟨rfl,F',hx,_,hM⟩;unfold Nv at hstep;rw [if_neg (by rw [hrun];decide),List.getElem?_eq_none O]at hstep;rcases hstep with⟨e2,_⟩| ⟨e2,_⟩| ⟨_,_,_,e3,e4,e5,e6⟩
  ·omega
  ·omega
  ·exact .inr (.inr ⟨rfl,_,F',e3,e4,e5,e6,hx,hM⟩)
end
