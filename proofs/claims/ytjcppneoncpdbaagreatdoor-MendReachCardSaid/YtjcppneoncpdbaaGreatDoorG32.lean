import Derived.Test.YtjcppneoncpdbaaGreatDoorG21
import Derived.Test.YtjcppneoncpdbaaGreatDoorG23
import Derived.Test.YtjcppneoncpdbaaGreatDoorG29
import Derived.Test.YtjcppneoncpdbaaGreatDoorG31
set_option maxHeartbeats 32000000
set_option maxRecDepth 100000
open Nat renaming lt_of_lt_of_le->Cb,le_refl->Ae,zero_add->D6,le_trans->Bf
open List renaming foldl_append->zg,getElem?_cons_zero->Ad,getElem?_cons_succ->Af,getElem_mem->CU,getElem_toArray->Au,getElem_cons_succ->Ap,getElem_cons_zero->Aj,setIfInBounds_toArray->Ah,set_cons_zero->Am,set_cons_succ->Aq,length_append->AQ,foldl_cons->QR,reverse_append->TG,reverse_singleton->Qo,singleton_append->Ru,length_reverse->Hq,getElem_reverse->nz,getElem?_eq_getElem->Ag
open Go.Lib renaming hid->Aa
open Go.World renaming putObj_heap_other->Hf,cell?_of_block->Bl
open UInt64 renaming toNat_inj->DL,ofNat->AA,toNat->TF
namespace Go.Proofs.YtjcppneoncpdbaaGreatDoor
open Go.RowKit Go.Shelf
attribute [local go_sem]Oper.semAt_some
def Uy(l:List Wr)(ps:List (UInt64×UInt64))(hpl:ps.length<=l.length)(s:St)(x:Below' ps.length):St:=
 if(ps[x.1]'x.2).2=0 then s else(Fj (Jg s (l[x.1]'(Cb x.2 hpl)).key.data.toList (ps[x.1]'x.2).1).1 (Be (ps[x.1]'x.2).2)).1
def Jk(l:List Wr)(ps:List (UInt64×UInt64))(hpl:ps.length<=l.length)(s:St)(pre:List (Below' ps.length)):St:=pre.foldl (Uy l ps hpl) s
def Uz(l:List Wr)(ps:List (UInt64×UInt64))(hpl:ps.length<=l.length)(s:St)(pre:List (Below' ps.length))(x:Below' ps.length):Prop:=
 (ps[x.1]'x.2).2≠0/\(Jg (Jk l ps hpl s pre) (l[x.1]'(Cb x.2 hpl)).key.data.toList (ps[x.1]'x.2).1).2≠0
theorem VT(l:List Wr)(ps:List (UInt64×UInt64))(hpl:ps.length<=l.length)(s:St)(pre:List (Below' ps.length))(x:Below' ps.length):Jk l ps hpl s (pre++[x])=Uy l ps hpl (Jk l ps hpl s pre) x:=by
 unfold Jk;rw [zg];rfl
theorem Qa{W W':World}{G:Nat->Prop}(B:Nat)(t:Touch G W W')(hG:∀b,G b->b<W.heap.size->Lu W b):KeepsFrom B W W':=⟨t.size,fun k o _ hk ho=>by
 have hkl:=(Array.getElem?_eq_some_iff.1 hk).1;rw [t.block k hkl (fun hg=>by
  obtain⟨o',h1,h2⟩:=hG k hg hkl;rw [hk]at h1;injection h1 with h1
  rw [<-h1,ho]at h2;cases h2)]
 exact hk⟩
theorem Al2(A:Option Addr)(n c:Nat)(w:World):Calls Tryz.prog 95 #[.slice A n c] w fun e w'=>e= .returned (.func (.func 143) #[] #[.pointer (some ⟨w.heap.size,0,none⟩)])/\w'=w.alloc (.cells #[.slice A n c] 111):=by
 go_enter Tryz.func95,Tryz.ntmps95
 go_wp2_with fail
 refine bodyPost_ret (v:= .func (.func 143) #[] #[.pointer (some ⟨w.heap.size,0,none⟩)]) (by simp [results,Tryz.results95,go_sem]) rfl ?_;exact⟨rfl,rfl⟩
theorem ES.ends{m0:DX}{w:World}{base jb x d p L:Nat}{s:St}{stamp:UInt64}{vs:Value}{l:List Wr}{ps:List (UInt64×UInt64)}{over:Bool}{en:Int}{F:Nat->Prop}{v:Value}(h:ES m0 w base jb x d p L s stamp vs l ps over en F v)(er:Int):
 ES m0 ((w.setCell ⟨jb,6,none⟩ (.bool true)).setCell ⟨jb,7,none⟩ (.int .i64 er)) base jb x d p L s stamp vs l ps true er F v/\AB (JG F jb v) (JG F jb v) w ((w.setCell ⟨jb,6,none⟩ (.bool true)).setCell ⟨jb,7,none⟩ (.int .i64 er)):=by
 have t:Touch (fun b=>b=jb) w ((w.setCell ⟨jb,6,none⟩ (.bool true)).setCell ⟨jb,7,none⟩ (.int .i64 er)):=((Touch.refl (fun b=>b=jb) w).setCell (p:=⟨jb,6,none⟩) (.inl rfl) _).setCell (p:=⟨jb,7,none⟩) (.inl rfl) _;have m:AB (JG F jb v) (JG F jb v) w ((w.setCell ⟨jb,6,none⟩ (.bool true)).setCell ⟨jb,7,none⟩ (.int .i64 er)):=⟨t.mono (fun b e=> .inr (.inl e)),fun b hb=> .inl hb⟩;exact⟨⟨⟨h.ix.sys.keep t (fun b hb e=>h.fj (e▸hb)) h.gj.1 h.gj.2,h.ix.box.touch t h.xj,h.ix.out⟩,(h.box.AU 6 (.bool true)).AU 7 (.int .i64 er),GY h.row t (fun b hb e=>h.mj (e▸hb)),h.set.moved m,h.fj,h.bj,h.bx,h.bt,h.mj,h.mF⟩,m⟩
theorem Afk{m0:DX}{w:World}{base jb xx d p L:Nat}{s:St}{stamp:UInt64}{vs:Value}{l:List Wr}{ps:List (UInt64×UInt64)}{en:Int}{F:Nat->Prop}{A:Option Addr}{c:Nat}(h:ES m0 w base jb xx d p L s stamp vs l ps false en F (.slice A ps.length c))(hmd:ps.length=0\/m0= .up M0)(hpl:ps.length<=l.length)(hl:l.length<=100000)(hkey:∀y∈l,y.key.size<=1000)(er:Int)
 (hok:∀k(hk:k<ps.length),¬Uz l ps hpl s (EZ ps.length k) ⟨ps.length-1-k,by omega⟩):
 Calls Tryz.prog 49 #[.pointer (some ⟨jb,0,none⟩),.int .i64 er] w fun e w'=>e= .returned (.int .i64 er)/\∃F',ES m0 w' base jb xx d p L (Jk l ps hpl s (EZ ps.length ps.length)) stamp vs l ps true er F' (.slice A ps.length c)/\
  AB (JG F jb (.slice A ps.length c)) (JG F' jb (.slice A ps.length c)) w w':=by
 have hjl:=h.box.lt;have j5:=h.box.cell 5;unfold BU at j5;simp only [Ad,Af]at j5;have HH:=Aa h;obtain⟨g,hgc⟩:∃g,A=some ⟨g,0,none⟩\/(g=jb/\ps.length=0):=by
  rcases h.row.2 with⟨h1,h2⟩| ⟨g,cap,cur,h1,_⟩
  ·exact⟨jb,.inr ⟨rfl,by injection h1⟩⟩
  ·exact⟨g,.inl (by injection h1)⟩
 have hgA:0<ps.length->A=some ⟨g,0,none⟩:=fun h0=>hgc.resolve_right (fun h1=>by omega)
 have HG:Hid (∀(W:World)(F':Nat->Prop)(s':St),ES m0 W base jb xx d p L s' stamp vs l ps false en F' (.slice A ps.length c)->g<W.heap.size/\¬F' g):=Aa (fun W F' s' hc=>by
  rcases hgc with h1| ⟨h1,_⟩
  ·exact⟨(hc.mlt g (by rw [h1];rfl)).2,hc.mF g (by rw [h1];rfl)⟩
  ·subst h1;exact⟨hc.box.lt,hc.fj⟩)
 have hgl:g<w.heap.size:=(HG.out _ _ _ h).1;refine(callsIn_wide (n:=3)).1 ?_;refine callsIn_of_wp_marks Tryz.func49 rfl trivial ?_ rfl;simp only [Tryz.ntmps49,List.size_toArray,List.length_cons,List.length_nil,Nat.reduceAdd,Nat.reduceSub,Array.replicate_succ,Array.replicate_zero,List.push_toArray,List.append_toArray,List.nil_append,List.cons_append]
 gi_wp2_with(refine⟨trivial,?_⟩;gi_at_call 95;refine(callsIn_wide.2 (Al2 _ _ _ _)).mono ?_;rintro e w'⟨rfl,rfl⟩)
 obtain⟨W3,hW3⟩:∃W3,W3=(w.alloc (.cells #[.pointer (some ⟨jb,0,none⟩)] 41)).alloc (.cells #[.slice A ps.length c] 111):=⟨_,rfl⟩;rw [<-hW3];have hb3:Below w.heap.size w W3:=hW3▸((Below.refl _ w).alloc (Ae _) _).alloc (by simp) _;have B2:BI W3 w.heap.size 41 [.pointer (some ⟨jb,0,none⟩)]:=by rw [hW3];exact(hO8q _ _ (by simp)).trans (heap_alloc_new _ _)
 have Bn:BI W3 (w.heap.size+1) 111 [.slice A ps.length c]:=by
  have:=heap_alloc_new (w.alloc (.cells #[.pointer (some ⟨jb,0,none⟩)] 41)) (.cells #[.slice A ps.length c] 111);rw [show(w.alloc (.cells #[.pointer (some ⟨jb,0,none⟩)] 41)).heap.size=w.heap.size+1 by simp,<-hW3]at this;exact this
 have hs3:W3.heap.size=w.heap.size+2:=by rw [hW3];simp
 have hC3:=h.below hb3;have hrow3:∀i(h:i<ps.length),W3.cell? ⟨g,i*2,none⟩=some (.int .u64 (ps[i].1.toNat:Int))/\W3.cell? ⟨g,i*2+1,none⟩=some (.int .u64 (ps[i].2.toNat:Int)):=fun i hi=>by
  obtain⟨A',c',e',_,hr⟩:=Ea hC3.row;obtain⟨b,off,e2,_,hc⟩:=hr.2 (by omega);injection e' with e' _ _
  rw [hgA (by omega)]at e';subst e';injection e2 with e2
  injection e2 with e3 e4
  subst e3 e4;have hf:=flat_get uG 2 (fun _=>rfl) ps i;refine⟨?_,?_⟩
  ·have:=hc (i*2) (by omega);rw [D6]at this;rw [this];exact hf 0 hi (by decide)
  ·have:=hc (i*2+1) (by omega);rw [D6]at this;rw [this];exact hf 1 hi (by decide)
 have HKk:=Aa hkey;have wZ:=Aa hok;have htab:=h.ix.sys.tabs.lt;have hxl:=h.ix.box.lt;have p1:=Bn.cell 0;simp only [Ad]at p1;refine wpIn_rangeFunc_ownH rfl (by decide) (gf:=143) (lb:= #[.pointer (some ⟨w.heap.size+1,0,none⟩)]) rfl trivial (enters_of Tryz.func143 (by kernel_rfl) rfl)
  (encs:=fun x:Below' ps.length=> #[.int .i64 (x.1:Int),Yx (ps[x.1]'x.2)]) (Kp:=kE g (w.heap.size+1)) (S:=fun xs=>xs=EZ ps.length ps.length) (Sp:=fun pre=>pre<+:EZ ps.length ps.length) (N:=ps.length) (w0:=W3)
  (Aez Fence.wide 2 trivial rfl (by decide) (w.heap.size+1) g c A ps (by omega) hgA W3 p1 hrow3 (by omega)) (fun h1 h2=>⟨h2.1.trans h1.1,h2.2.trans h1.2⟩) (fun W k o o' hk ho h1 _=>⟨Hf (by omega),Hf (by omega)⟩) (Below.refl _ _) (fun _=>rfl)
  (fun pre W=>(∃F',ES m0 W base jb xx d p L (Jk l ps hpl s pre) stamp vs l ps false en F' (.slice A ps.length c)/\AB (JG F jb (.slice A ps.length c)) (JG F' jb (.slice A ps.length c)) w W)/\(BI W w.heap.size 41 [.pointer (some ⟨jb,0,none⟩)]/\BI W (w.heap.size+1) 111 [.slice A ps.length c])/\W3.heap.size<=W.heap.size)
  (fun e pre _=>e= .exit 0/\∃lC x,pre=lC++[x]/\Uz l ps hpl s lC x)
  ?hI (fun _ _ _ _ _ hs _ _=>hs) ⟨⟨F,hC3,AB.of_below hb3⟩,⟨B2,Bn⟩,Ae _⟩
  (fun x a' W=>∃Bx,W3.heap.size<=Bx/\BI W Bx 115 [.int .u64 ((ps[x.1]'x.2).1.toNat:Int),.int .u64 ((ps[x.1]'x.2).2.toNat:Int)]/\a'={tmps:= #[.pointer (some ⟨jb,0,none⟩),.int .i64 er,.pointer (some ⟨w.heap.size,0,none⟩),undef,.int .i64 0,.int .i64 (x.1:Int),.pointer (some ⟨Bx,0,none⟩),.pointer (some ⟨jb,0,none⟩),.pointer (some ⟨jb,0,none⟩),.pointer (some ⟨jb,5,none⟩),.slice A ps.length c,.func (.func 143) #[] #[.pointer (some ⟨w.heap.size+1,0,none⟩)],.int .i64 (x.1:Int),Yx (ps[x.1]'x.2),undef,undef,undef,undef,undef,undef,undef,undef,undef,undef,undef,undef,undef,undef,undef,undef,undef,undef,undef,undef,undef,undef,undef,undef,undef,undef,undef,undef,undef,undef,undef,undef],defers:=[]})
  ?hAx ?assign ?body ?done ?stop
 case hI=>
  rintro pre X Y row⟨⟨F',hC,hM⟩,⟨hB2,hBn⟩,hsz⟩hg hr;have hno:∀r,row=some r->¬Lu X r:=fun r e⟨o,h1,h2⟩=>by
   obtain⟨_,o',h3,h4⟩:=hr r e;rw [h1]at h3;injection h3 with h3
   rw [h3,h4]at h2;cases h2
  have t:=Kt hg;exact⟨⟨F',hC.abide hg hno,⟨hM.touch.trans t (fun b e=> .inr (by have:=(hr b e).1;omega)),hM.own⟩⟩,⟨hB2.touch t (fun e=>hno _ e (Ib hB2)),hBn.touch t (fun e=>hno _ e (Ib hBn))⟩,Bf hsz t.size⟩
 case hAx=>
  intro x a';rintro u X Y row⟨Bx,h1,h2,h3⟩hg hr;refine⟨Bx,h1,h2.touch (Kt hg) (fun e=> ?_),h3⟩;obtain⟨_,o',h4,h5⟩:=hr Bx e;obtain⟨o,h6,h7⟩:=Ib h2;rw [h6]at h4;injection h4 with h4
  rw [h4,h5]at h7;cases h7
 case assign=>
  rintro l0 pre x W K⟨⟨F',hC,hM⟩,⟨hB2,hBn⟩,hsz⟩hK;have hgW:g<W.heap.size:=(HG.out _ _ _ hC).1;unfold Yx at hK⊢;have HK:=Aa hK;have HC:=Aa hC;have HM:=Aa hM;have HB2:=Aa hB2;have HBn:=Aa hBn;clear hK hC hM hB2 hBn;gi_wp2;have hbW:∀o,Below W.heap.size W (W.alloc o):=fun o=>(Below.refl _ _).alloc (Ae _) _
  exact HK.out _ _ ((KeepsOthers.alloc _ _).from _) ⟨hO8q _ _ hgW,hO8q _ _ (by omega)⟩ ⟨⟨F',HC.out.below (hbW _),HM.out.below (hbW _)⟩,⟨HB2.out.below (hbW _) HB2.out.lt,HBn.out.below (hbW _) HBn.out.lt⟩,by have:=(hbW (.cells #[] 115)).size;simp at this⊢;omega⟩ ⟨W.heap.size,hsz,heap_alloc_new _ _,rfl⟩
 case body=>
  rintro l0 pre x a' W hl0⟨r,hr0⟩⟨⟨F',hC,hM⟩,⟨hB2,hBn⟩,hsz⟩⟨Bx,hBx1,hBx,rfl⟩hlen;have HMd:Hid (m0= .up M0):=Aa (hmd.resolve_left (fun e=>by have:=x.2;omega));have yH:x.1<l.length:=Cb x.2 hpl;obtain⟨b2,off,c2,hv2,hc2,hbw,hnG,q0,q1,q2⟩:=hC.set.at x.1 yH;have hkx:=HKk.out l[x.1] (CU yH);have hsn:=VT l ps hpl s pre x;have Aif:Hid (∀h:(ps[x.1]'x.2).2≠0,(Jg (Jk l ps hpl s pre) (l[x.1]'yH).key.data.toList (ps[x.1]'x.2).1).2≠0->Uz l ps hpl s pre x):=Aa (fun h k=>⟨h,k⟩);unfold Uy at hsn;have HC:=Aa hC;have HM:=Aa hM;have HSn:=Aa hsn;have x0:=hBx.cell 0;have x1:=hBx.cell 1;have y0:=hB2.cell 0;simp only [Ad,Af]at x0 x1 y0;have HB2:=Aa hB2;have HBx:=Aa hBx;have HBn:=Aa hBn;clear hC hM hsn hB2 hBx hBn;by_cases hz:(ps[x.1]'x.2).2=0
  ·rw [hz]at x1;have HS2:Hid (Jk l ps hpl s (pre++[x])=Jk l ps hpl s pre):=Aa (by rw [HSn.out,if_pos hz]);replace x1:W.cell? ⟨Bx,1,none⟩=some (.int .u64 0):=x1;clear hz HSn Aif;unfold Yx;gi_wp2;exact⟨KeepsFrom.refl _ _,⟨rfl,rfl⟩,⟨⟨F',by rw [HS2.out];exact HC.out,HM.out⟩,⟨HB2.out,HBn.out⟩,hsz⟩⟩
  ·have hS2:Jk l ps hpl s (pre++[x])=(Fj (Jg (Jk l ps hpl s pre) (l[x.1]'yH).key.data.toList (ps[x.1]'x.2).1).1 (Be (ps[x.1]'x.2).2)).1:=by rw [HSn.out,if_neg hz]
   have HS2:=Aa hS2;have lD:=Aa (Aif.out hz);have t1:(((ps[x.1]'x.2).2.toNat:Int)==0)=false:=by rw [beq_eq_false_iff_ne];intro e;exact hz (DL.1 (by simp;omega))
   have t2:((ps[x.1]'x.2).2.toNat==0)=false:=by rw [beq_eq_false_iff_ne];intro e;exact hz (DL.1 (by simp;omega))
   clear hz HSn Aif hS2;unfold Yx;generalize ps[x.1]'x.2=px at*;generalize l[x.1]'yH=yx at*;have hd:1<=3-1-1:=by decide
   have hmx:Tryz.prog.follows .mixedOrders=true:=by kernel_rfl
   have j4:=HC.out.box.cell 4;have j1:=HC.out.box.cell 1;unfold BU at j1 j4;simp only [Ad,Af]at j1 j4;rw [hv2]at j4;have hx1:(x.1:Int)<(l.length:Int):=by omega
   have hx2:decide ((x.1:Int)<(l.length:Int))=true:=decide_eq_true hx1;have hx5:decide (x.1<l.length)=true:=decide_eq_true yH;have HXi:Hid (Ix W xx d p L (Jk l ps hpl s pre) F'):=Aa (by have h:=HC.out.ix;rw [HMd.out]at h;exact h);have HUn:=Aa (fun W'(k:Below W.heap.size W W')=>Afi (HXi.out.below k) (⟨HC.out.box.below k HC.out.box.lt,HC.out.fj⟩:Jj W' jb xx d p stamp vs (.slice A ps.length c) false en F') yx.key hkx px.1);obtain⟨ur,hur⟩:∃ur,ur=Jg (Jk l ps hpl s pre) yx.key.data.toList px.1:=⟨_,rfl⟩;rw [<-hur]at HUn HS2 lD;clear hur;have nB2:¬F' w.heap.size:=HC.out.ix.sys.eY HB2.out (by decide);have nBx:¬F' Bx:=HC.out.ix.sys.eY HBx.out (by decide);have nBn:¬F' (w.heap.size+1):=HC.out.ix.sys.eY HBn.out (by decide);have ng:¬F' g:=(HG.out _ _ _ HC.out).2;have hgW:g<W.heap.size:=(HG.out _ _ _ HC.out).1;have nb2:¬F' b2:=fun h=>hnG (.inl h)
   have mW:Hid (∀w5 F5,AB F' F5 W.drew w5->AB F' F5 W w5/\(w5.cell? ⟨w.heap.size,0,none⟩=some (.pointer (some ⟨jb,0,none⟩))/\w5.cell? ⟨jb,4,none⟩=some (.slice (some ⟨b2,off,none⟩) l.length c2)/\w5.cell? ⟨b2,off+x.1*3,none⟩=some (.string yx.key)/\w5.cell? ⟨Bx,0,none⟩=some (.int .u64 (px.1.toNat:Int)))):=Aa (fun w5 F5 hm=>by
    have m:AB F' F5 W w5:=(AB.of_below ((Dr.drew W).below _)).trans hm;have bl:∀b,b<W.heap.size->¬F' b->w5.heap[b]? =W.heap[b]? :=fun b hb hn=>m.touch.block b hb hn
    exact⟨m,(Bl (bl _ HB2.out.lt nB2)).trans y0,(Bl (bl _ HC.out.box.lt HC.out.fj)).trans j4,(Bl (bl _ hbw nb2)).trans q0,(Bl (bl _ HBx.out.lt nBx)).trans x0⟩)
   obtain⟨s5,r5⟩:=ur;simp only at HUn HS2 lD;clear q1 q2;gi_wp2;by_cases oh:r5=0
   ·subst oh;clear lD;refine Ie (S:=(fun w'=>w'.cell? ⟨w.heap.size,0,none⟩=some (.pointer (some ⟨jb,0,none⟩))/\w'.cell? ⟨jb,4,none⟩=some (.slice (some ⟨b2,off,none⟩) l.length c2)/\w'.cell? ⟨b2,off+x.1*3,none⟩=some (.string yx.key)/\w'.cell? ⟨Bx,0,none⟩=some (.int .u64 (px.1.toNat:Int)))) (by kernel_rfl) (by kernel_rfl) ⟨y0,j4,q0,x0⟩ (fun hHeld=> ?_);refine FB 0 (.pointer (some ⟨jb,0,none⟩)) rfl (by kernel_rfl) (fun _ _ _ h=>h) (by rfl) (fun w hSw=>by obtain⟨s0,s1,s2,s3⟩:=hSw;go_simp) hHeld ?_;refine FB 1 (.pointer (some ⟨jb,0,none⟩)) rfl (by kernel_rfl) (fun _ _ _ h=>h) (by rfl) (fun w hSw=>by obtain⟨s0,s1,s2,s3⟩:=hSw;go_simp) hHeld ?_;refine FB 2 (.pointer (some ⟨jb,0,none⟩)) rfl (by kernel_rfl) (fun _ _ _ h=>h) (by rfl) (fun w hSw=>by clear hSw;go_simp) hHeld ?_;refine FB 3 (.pointer (some ⟨jb,4,none⟩)) rfl (by kernel_rfl) (fun _ _ _ h=>h) (by rfl) (fun w hSw=>by clear hSw;go_simp) hHeld ?_
    try simp only [Act.put,Au,Ap,Aj,Ah,Am,Aq]
    refine FB 4 (.slice (some ⟨b2,off,none⟩) l.length c2) rfl (by kernel_rfl) (fun _ _ _ h=>h) (by rfl) (fun w hSw=>by obtain⟨s0,s1,s2,s3⟩:=hSw;go_simp) hHeld ?_;refine FB 5 (.int .i64 (x.1:Int)) rfl (by kernel_rfl) (fun _ _ _ h=>h) (by rfl) (fun w hSw=>by clear hSw;go_simp) hHeld ?_;refine FB 6 (.pointer (some ⟨b2,off+x.1*3,none⟩)) rfl (by kernel_rfl) (fun _ _ _ h=>h) (by rfl) (fun w hSw=>by clear hSw;go_simp) hHeld ?_;refine FB 7 (.pointer (some ⟨b2,off+x.1*3,none⟩)) rfl (by kernel_rfl) (fun _ _ _ h=>h) (by rfl) (fun w hSw=>by clear hSw;go_simp) hHeld ?_
    try simp only [Act.put,Au,Ap,Aj,Ah,Am,Aq]
    refine FB 8 (.string yx.key) rfl (by kernel_rfl) (fun _ _ _ h=>h) (by rfl) (fun w hSw=>by obtain⟨s0,s1,s2,s3⟩:=hSw;go_simp) hHeld ?_;refine FB 9 (.pointer (some ⟨Bx,0,none⟩)) rfl (by kernel_rfl) (fun _ _ _ h=>h) (by rfl) (fun w hSw=>by clear hSw;go_simp) hHeld ?_;refine FB 10 (.int .u64 (px.1.toNat:Int)) rfl (by kernel_rfl) (fun _ _ _ h=>h) (by rfl) (fun w hSw=>by obtain⟨s0,s1,s2,s3⟩:=hSw;go_simp) hHeld ?_
    try simp only [Act.put,Au,Ap,Aj,Ah,Am,Aq]
    refine wpAnyH_ready (rs:=[11]) (by kernel_rfl) (by simp) ?_;refine AllReadyH.cons rfl (fun K hK=> ?_) AllReadyH.nil;go_simp;go_at_call 96;refine(HUn.out _ ((Dr.drew W).below _)).mono ?_;rintro e w5⟨rfl,F5,LZ,Ig⟩;obtain⟨hM,hS5⟩:=mW.out w5 F5 Ig;refine hK.out _ _ (hS5) (fun hHeld=> ?_);clear hK K
    try simp only [Act.put,Au,Ap,Aj,Ah,Am,Aq]
    refine FB 12 (.bool false) rfl (by kernel_rfl) (fun _ _ _ h=>h) (by rfl) (fun w hSw=>by clear hSw;go_simp) hHeld ?_
    try simp only [Act.put,Au,Ap,Aj,Ah,Am,Aq]
    refine wpAnyH_done (by kernel_rfl) ?_ _;refine⟨nofun,?_⟩;have KA:=Aa hM;have YJ:=Aa LZ;have y5:=hHeld.1;have k5:=(HC.out.box.touch hM.touch HC.out.fj);have kx:=HBx.out.touch hM.touch nBx;clear LZ Ig hM hS5 hHeld mW HUn q0 y0 x0 x1 j1 j4;have j1:=k5.cell 1;have x1:=kx.cell 1;unfold BU at j1;simp only [Ad,Af]at j1 x1;have HJ5:=Aa k5;have HY5:=Aa kx;have Ou:=Aa (HB2.out.touch KA.out.touch nB2);clear k5 kx;have n5:¬F5 w.heap.size:=KA.out.out HB2.out.lt nB2;have n5x:¬F5 Bx:=KA.out.out HBx.out.lt nBx;have n5j:¬F5 jb:=KA.out.out HC.out.box.lt HC.out.fj;have hof: -9223372036854775808<=Be px.2/\Be px.2<=9223372036854775807:=JZ px.2;have HDr:=Aa (fun W'(k:Below w5.heap.size w5 W')=>MR (YJ.out.sys.below k) (Be px.2) hof);have HKq:Hid (∀w6 F6,AB F5 F6 w5.drew w6->AB F5 F6 w5 w6/\(w6.cell? ⟨w.heap.size,0,none⟩=some (.pointer (some ⟨jb,0,none⟩))/\w6.cell? ⟨jb,1,none⟩=some (.pointer (some ⟨p,0,none⟩))/\w6.cell? ⟨Bx,1,none⟩=some (.int .u64 (px.2.toNat:Int)))):=Aa (fun w6 F6 hm=>by
     have m:AB F5 F6 w5 w6:=(AB.of_below ((Dr.drew w5).below _)).trans hm;have bl:∀b,b<w5.heap.size->¬F5 b->w6.heap[b]? =w5.heap[b]? :=fun b hb hn=>m.touch.block b hb hn
     exact⟨m,(Bl (bl _ Ou.out.lt n5)).trans y5,(Bl (bl _ HJ5.out.lt n5j)).trans j1,(Bl (bl _ HY5.out.lt n5x)).trans x1⟩)
    clear hof;gi_wp2;refine Ie (S:=(fun w'=>w'.cell? ⟨w.heap.size,0,none⟩=some (.pointer (some ⟨jb,0,none⟩))/\w'.cell? ⟨jb,1,none⟩=some (.pointer (some ⟨p,0,none⟩))/\w'.cell? ⟨Bx,1,none⟩=some (.int .u64 (px.2.toNat:Int)))) (by kernel_rfl) (by kernel_rfl) ⟨y5,j1,x1⟩ (fun hHeld=> ?_);refine FB 0 (.pointer (some ⟨jb,0,none⟩)) rfl (by kernel_rfl) (fun _ _ _ h=>h) (by rfl) (fun w hSw=>by obtain⟨s0,s1,s2⟩:=hSw;go_simp) hHeld ?_;refine FB 1 (.pointer (some ⟨jb,0,none⟩)) rfl (by kernel_rfl) (fun _ _ _ h=>h) (by rfl) (fun w hSw=>by clear hSw;go_simp) hHeld ?_;refine FB 2 (.pointer (some ⟨jb,1,none⟩)) rfl (by kernel_rfl) (fun _ _ _ h=>h) (by rfl) (fun w hSw=>by clear hSw;go_simp) hHeld ?_;refine FB 3 (.pointer (some ⟨p,0,none⟩)) rfl (by kernel_rfl) (fun _ _ _ h=>h) (by rfl) (fun w hSw=>by obtain⟨s0,s1,s2⟩:=hSw;go_simp) hHeld ?_
    try simp only [Act.put,Au,Ap,Aj,Ah,Am,Aq]
    refine FB 4 (.pointer (some ⟨Bx,1,none⟩)) rfl (by kernel_rfl) (fun _ _ _ h=>h) (by rfl) (fun w hSw=>by clear hSw;go_simp) hHeld ?_;refine FB 5 (.int .u64 (px.2.toNat:Int)) rfl (by kernel_rfl) (fun _ _ _ h=>h) (by rfl) (fun w hSw=>by obtain⟨s0,s1,s2⟩:=hSw;go_simp) hHeld ?_;refine FB 6 (.int .i64 (Be px.2)) rfl (by kernel_rfl) (fun _ _ _ h=>h) (by rfl) (fun w hSw=>by clear hSw;go_simp;rfl) hHeld ?_
    try simp only [Act.put,Au,Ap,Aj,Ah,Am,Aq]
    refine wpAnyH_ready (rs:=[7]) (by kernel_rfl) (by simp) ?_;refine AllReadyH.cons rfl (fun K hK=> ?_) AllReadyH.nil;go_simp;go_at_call 94;refine(HDr.out _ ((Dr.drew w5).below _)).mono ?_;rintro e w6⟨rfl,F6,Al3,TC⟩;obtain⟨hM,hS6⟩:=HKq.out w6 F6 TC;refine hK.out _ _ (hS6) (fun hHeld=> ?_);clear hK K
    try simp only [Act.put,Au,Ap,Aj,Ah,Am,Aq]
    refine wpAnyH_done (by kernel_rfl) ?_ _;refine⟨nofun,?_⟩;have Un:=Aa hM;have WQ:=Aa (YJ.out.move Al3 hM);clear Al3 TC hM hS6 hHeld HKq HDr;gi_wp2;have mm:AB F' F6 W w6:=KA.out.trans Un.out;obtain⟨c6,m6⟩:=HC.out.move (HS2.out▸WQ.out) mm;exact⟨Qa _ mm.touch (fun b hb _=>HC.out.ix.sys.cells hb),⟨mm.touch.block _ hgW ng,mm.touch.block _ HBn.out.lt nBn⟩,⟨⟨F6,by rw [HMd.out];exact c6,HM.out.trans m6⟩,⟨HB2.out.touch mm.touch nB2,HBn.out.touch mm.touch nBn⟩,Bf hsz mm.touch.size⟩⟩
   ·have t5:(r5==0)=false:=by rw [beq_eq_false_iff_ne];exact oh
    have hbd:=lD.out oh;have HB:=Aa hbd;clear lD HS2 hbd;refine Ie (S:=(fun w'=>w'.cell? ⟨w.heap.size,0,none⟩=some (.pointer (some ⟨jb,0,none⟩))/\w'.cell? ⟨jb,4,none⟩=some (.slice (some ⟨b2,off,none⟩) l.length c2)/\w'.cell? ⟨b2,off+x.1*3,none⟩=some (.string yx.key)/\w'.cell? ⟨Bx,0,none⟩=some (.int .u64 (px.1.toNat:Int)))) (by kernel_rfl) (by kernel_rfl) ⟨y0,j4,q0,x0⟩ (fun hHeld=> ?_);refine FB 0 (.pointer (some ⟨jb,0,none⟩)) rfl (by kernel_rfl) (fun _ _ _ h=>h) (by rfl) (fun w hSw=>by obtain⟨s0,s1,s2,s3⟩:=hSw;go_simp) hHeld ?_;refine FB 1 (.pointer (some ⟨jb,0,none⟩)) rfl (by kernel_rfl) (fun _ _ _ h=>h) (by rfl) (fun w hSw=>by obtain⟨s0,s1,s2,s3⟩:=hSw;go_simp) hHeld ?_;refine FB 2 (.pointer (some ⟨jb,0,none⟩)) rfl (by kernel_rfl) (fun _ _ _ h=>h) (by rfl) (fun w hSw=>by clear hSw;go_simp) hHeld ?_;refine FB 3 (.pointer (some ⟨jb,4,none⟩)) rfl (by kernel_rfl) (fun _ _ _ h=>h) (by rfl) (fun w hSw=>by clear hSw;go_simp) hHeld ?_
    try simp only [Act.put,Au,Ap,Aj,Ah,Am,Aq]
    refine FB 4 (.slice (some ⟨b2,off,none⟩) l.length c2) rfl (by kernel_rfl) (fun _ _ _ h=>h) (by rfl) (fun w hSw=>by obtain⟨s0,s1,s2,s3⟩:=hSw;go_simp) hHeld ?_;refine FB 5 (.int .i64 (x.1:Int)) rfl (by kernel_rfl) (fun _ _ _ h=>h) (by rfl) (fun w hSw=>by clear hSw;go_simp) hHeld ?_;refine FB 6 (.pointer (some ⟨b2,off+x.1*3,none⟩)) rfl (by kernel_rfl) (fun _ _ _ h=>h) (by rfl) (fun w hSw=>by clear hSw;go_simp) hHeld ?_;refine FB 7 (.pointer (some ⟨b2,off+x.1*3,none⟩)) rfl (by kernel_rfl) (fun _ _ _ h=>h) (by rfl) (fun w hSw=>by clear hSw;go_simp) hHeld ?_
    try simp only [Act.put,Au,Ap,Aj,Ah,Am,Aq]
    refine FB 8 (.string yx.key) rfl (by kernel_rfl) (fun _ _ _ h=>h) (by rfl) (fun w hSw=>by obtain⟨s0,s1,s2,s3⟩:=hSw;go_simp) hHeld ?_;refine FB 9 (.pointer (some ⟨Bx,0,none⟩)) rfl (by kernel_rfl) (fun _ _ _ h=>h) (by rfl) (fun w hSw=>by clear hSw;go_simp) hHeld ?_;refine FB 10 (.int .u64 (px.1.toNat:Int)) rfl (by kernel_rfl) (fun _ _ _ h=>h) (by rfl) (fun w hSw=>by obtain⟨s0,s1,s2,s3⟩:=hSw;go_simp) hHeld ?_
    try simp only [Act.put,Au,Ap,Aj,Ah,Am,Aq]
    refine wpAnyH_ready (rs:=[11]) (by kernel_rfl) (by simp) ?_;refine AllReadyH.cons rfl (fun K hK=> ?_) AllReadyH.nil;go_simp;go_at_call 96;refine(HUn.out _ ((Dr.drew W).below _)).mono ?_;rintro e w5⟨rfl,F5,LZ,Ig⟩;obtain⟨hM,hS5⟩:=mW.out w5 F5 Ig;refine hK.out _ _ (hS5) (fun hHeld=> ?_);clear hK K
    try simp only [Act.put,Au,Ap,Aj,Ah,Am,Aq]
    refine FB 12 (.bool true) rfl (by kernel_rfl) (fun _ _ _ h=>h) (by rfl) (fun w hSw=>by clear hSw;go_simp) hHeld ?_
    try simp only [Act.put,Au,Ap,Aj,Ah,Am,Aq]
    refine wpAnyH_done (by kernel_rfl) ?_ _;refine⟨nofun,?_⟩;have KA:=Aa hM;clear LZ Ig hM hS5 hHeld mW HUn;gi_wp2;exact⟨Qa _ KA.out.touch (fun b hb _=>HC.out.ix.sys.cells hb),⟨rfl,pre,x,rfl,HB.out⟩⟩
 case done=>
  rintro D xs W hD rfl⟨⟨F',hC,hM⟩,⟨hB2,hBn⟩,hsz⟩hDf;have y0:=hB2.cell 0;simp only [Ad]at y0;have f6:=hC.box.frozen 6;have f7:=hC.box.frozen 7;have y6:=hC.box.cell 6;have y7:=hC.box.cell 7;unfold BU at y6 y7;simp only [Ad,Af]at y6 y7;have HC:=Aa hC;have HM:=Aa hM;clear hC hM hB2 hBn;gi_wp2;refine wpIn_wide.2 ?_;go_region;have hK2:=(KeepsOthers.setCell (W.setCell ⟨jb,6,none⟩ (.bool true)) ⟨jb,7,none⟩ (.int .i64 er)).same D _ ((KeepsOthers.setCell W ⟨jb,6,none⟩ (.bool true)).same D _ hDf rfl) rfl;gi_wp2;refine⟨by simp,.inl ⟨_,_,rfl,run_takeDeferred hK2,?_⟩⟩;refine⟨.int .i64 er,by simp [results,Tryz.results49,go_sem],rfl,F',?_⟩;obtain⟨c6,m6⟩:=HC.out.ends er;have hbd:=((Dr.drew ((W.setCell ⟨jb,6,none⟩ (.bool true)).setCell ⟨jb,7,none⟩ (.int .i64 er))).below ((W.setCell ⟨jb,6,none⟩ (.bool true)).setCell ⟨jb,7,none⟩ (.int .i64 er)).heap.size);have hK3:((W.setCell ⟨jb,6,none⟩ (.bool true)).setCell ⟨jb,7,none⟩ (.int .i64 er)).drew.heap[D]? =some (.deferred (some [])):=hK2;have c7:=(c6.below hbd).abide (grownBy_putObj' _ D (.deferred none)) (fun r e=>by
   cases e
   rintro⟨o,h1,h2⟩;rw [hK3]at h1;injection h1 with h1
   rw [<-h1]at h2;cases h2)
  refine⟨c7,((HM.out.trans m6).below hbd).touch.trans (Kt (grownBy_putObj' _ D (.deferred none))) (fun b e=> ?_),fun b hb=>((HM.out.trans m6).own b hb)⟩;cases e
  exact .inr (by omega)
 case stop=>
  rintro D e pre W hD hpre⟨rfl,lC,x,rfl,hbad⟩hK;exfalso;have hpl2:lC.length+1<=ps.length:=by have:=hpre.length_le;rw [Nz _ _ (Ae _),AQ]at this;exact this
  have e1:lC++[x]=EZ ps.length (lC.length+1):=by
   have h2:=SX ps.length (lC.length+1) ps.length hpl2;exact(List.prefix_of_prefix_length_le hpre h2 (by rw [Nz _ _ hpl2,AQ];exact Ae _)).eq_of_length (by rw [Nz _ _ hpl2,AQ];rfl)
  rw [NZ _ _ (by omega)]at e1;obtain⟨e2,e3⟩:=List.append_inj' e1 rfl;injection e3 with e3 _
  refine wZ.out lC.length (by omega) ?_;rw [<-e2,<-e3];exact hbad
end Go.Proofs.YtjcppneoncpdbaaGreatDoor
namespace Go.Proofs.YtjcppneoncpdbaaGreatDoor
open Go.RowKit
section
variable{w:World}{x d p L:Nat}{s:St}{F:Nat->Prop}
theorem yI (h : Ix w x d p L s F) {items : List Kv} {ch : List UInt8 -> List Lk} (hs : Dc L s items ch) {jb : Nat} {stamp : UInt64} {vs vd : Value} {en : Int} (hj : Jj w jb x d p stamp vs vd false en F) (y : Wr) (hy : Dk y = true) (hs0 : stamp.toNat ≠ 0) :
    Calls Tryz.prog 48 #[.pointer (some ⟨jb, 0, none⟩), NV y] w fun e w' => e = .returned (.tuple #[.agg #[.int .u64 ((DV s stamp y).2.1.toNat : Int), .int .u64 ((DV s stamp y).2.2.1.toNat : Int)], .int .i64 (DV s stamp y).2.2.2]) /\
      ∃ F', Ix w' x d p L (DV s stamp y).1 F' /\ Jj w' jb x d p stamp vs vd false en F' /\ AB F F' w w' := by
  have hyk : y.key.size <= 16 /\ y.text.size <= 40 /\ (y.gone = true -> y.text.size = 0) := by
    unfold Dk at hy
    simp only [Bool.and_eq_true, decide_eq_true_eq, Bool.or_eq_true, Bool.not_eq_true'] at hy
    exact ⟨hy.1.1, hy.1.2, fun hg => hy.2.resolve_left (by rw [hg]; simp)⟩
  have hget : ∃ v e, FP s y.key.data.toList = (v, e) /\ ((v = 0 /\ e = 7) \/ (v ≠ 0 /\ e = 0)) := by
    rcases rD hs.ix y.key.data.toList hyk.1 with ⟨v, e, hm, hv⟩ | ⟨e, hn⟩
    · exact ⟨v, 0, e, .inr ⟨hv, rfl⟩⟩
    · exact ⟨0, 7, e, .inl ⟨rfl, rfl⟩⟩
  obtain ⟨v, e, hg, hve⟩ := hget
  have he : ¬ (e ≠ 0 /\ e ≠ 7) := by rcases hve with ⟨_, rfl⟩ | ⟨_, rfl⟩ <;> decide
  have hr : DU ⟨stamp, v, y.gone, y.text⟩ = true := (JC _).2 ⟨hs0, hyk.2.1, hyk.2.2⟩
  have hv0 : e = 0 -> v.toNat ≠ 0 := fun h0 h1 => by
    rcases hve with ⟨_, rfl⟩ | ⟨h2, _⟩
    · cases h0
    · exact h2 (DL.1 h1)
  by_cases hgv : y.gone = true /\ v = 0
  · have e1 : DV s stamp y = (s, 0, 0, 0) := by
      unfold DV
      rw [hg]
      simp only
      rw [if_neg he, if_pos hgv]
    rw [e1]
    obtain ⟨rfl, rfl⟩ := hve.resolve_right (fun h => h.1 hgv.2)
    exact Zo h hj y hyk.1 hyk.2.1 hg hgv.1
  · have hVe : (e = 7 /\ v = 0 /\ y.gone = false) \/ (e = 0 /\ v.toNat ≠ 0) := by
      rcases hve with ⟨h1, h2⟩ | ⟨_, h2⟩
      · refine .inl ⟨h2, h1, ?_⟩
        cases hgn : y.gone with
        | false => rfl
        | true => exact absurd ⟨hgn, h1⟩ hgv
      · exact .inr ⟨h2, hv0 h2⟩
    rcases Ab4 hs.ix ⟨stamp, v, y.gone, y.text⟩ hr with ea | ⟨s1, o, ea, hT, _, _, uS, ho0, _, _, ix1, _, _, _⟩
    · have e1 : DV s stamp y = (s, 0, 0, 6) := by
        unfold DV
        rw [hg]
        simp only
        rw [if_neg he, if_neg hgv, ea]
        simp only
        rw [if_pos (by decide)]
      rw [e1]
      have hT : ∀ off s1, C9 s 1 = some (off, s1) -> (Fh { s1 with ws := BA s1.ws (off / 8) (CJ ⟨stamp, v, y.gone, y.text⟩) } off).2 = 0 := fun off t ht => by
        have hr' := hr
        unfold GI at ea
        rw [if_neg (by rw [hr']; simp), ht] at ea
        simp only at ea
        obtain ⟨ok1, hw1, fE, Tj, hh1, _, hh2, ht1⟩ := PS hs.ix.ok (.inl rfl) ht
        have hb1 := hh1.bounds ok1
        have hput : ∀ i, ¬ Gy off 1 i -> BA t.ws (off / 8) (CJ ⟨stamp, v, y.gone, y.text⟩) i = t.ws i := fun i hi => by
          unfold BA
          rw [if_neg]
          intro h
          have hl1 : AZ 1 = 1 := rfl
          exact hi ⟨h.1, by rw [Hz] at h; omega⟩
        have hl1 : AZ 1 = 1 := rfl
        have hnot : ∀ i, i < 16 + t.sh.BM -> ¬ Gy off 1 i := fun i hi h => by
          have htf := ok1.sh.NR
          unfold Gy at h; omega
        have Tm : BG L ({ t with ws := BA t.ws (off / 8) (CJ ⟨stamp, v, y.gone, y.text⟩) } : St) := ok1.words (fun i hi => hput _ (hnot _ (by omega)))
        have fF : Fv ({ t with ws := BA t.ws (off / 8) (CJ ⟨stamp, v, y.gone, y.text⟩) } : St) off 1 := hh1
        obtain ⟨s2, e2, _⟩ := fC Tm fF
        rw [e2]
      exact (Apx h hj y hyk.1 hyk.2.1 hg hVe hT (er := 6) (er2 := 0) (s2 := s) (s3 := s) ea (fun h0 => absurd h0 (by decide)) (fun h0 => absurd h0 (by decide))).mono fun e w' hh => hh
    · have hone : AA o ≠ 0 := fun e => by
        have := congrArg TF e
        rw [D8 (by omega)] at this
        simp at this
        omega
      have hpl : (AA o).toNat <= 65536 := by rw [D8 (by omega)]; exact uS
      obtain ⟨_, hput⟩ := qV ix1 y.key.data.toList hyk.1 (AA o) hone
      obtain ⟨rp, hrp⟩ : ∃ rp, rp = GX s1 y.key.data.toList (AA o) := ⟨_, rfl⟩
      rw [<- hrp] at hput
      obtain ⟨s2, e2⟩ := rp
      simp only at hput
      rcases hput with ⟨rfl, _, _⟩ | ⟨rfl, _, _, _⟩
      · have e1 : DV s stamp y = ((Fj s2 (Be (AA o))).1, 0, 0, 6) := by
          unfold DV
          rw [hg]
          simp only
          rw [if_neg he, if_neg hgv, ea]
          simp only
          rw [if_neg (by simp), <- hrp]
          simp only
          rw [if_pos (by decide)]
        rw [e1]
        exact (Apx h hj y hyk.1 hyk.2.1 hg hVe hT (er := 0) (er2 := 6) ea (fun _ => hrp.symm) (fun _ _ => rfl)).mono fun e w' hh => hh
      · have e1 : DV s stamp y = (s2, v, AA o, 0) := by
          unfold DV
          rw [hg]
          simp only
          rw [if_neg he, if_neg hgv, ea]
          simp only
          rw [if_neg (by simp), <- hrp]
          simp only
          rw [if_neg (by simp)]
        rw [e1]
        exact (Apx h hj y hyk.1 hyk.2.1 hg hVe hT (er := 0) (er2 := 0) (s3 := s2) ea (fun _ => hrp.symm) (fun _ h0 => absurd rfl h0)).mono fun e w' hh => hh
end
def ND(s:St)(q:Past):St:=if q.2.2=0 then s else(Fj (Jg s q.1.data.toList q.2.1).1 (Be q.2.2)).1
theorem yJ{L:Nat}{items:List Kv}{ch:List UInt8->List Lk}{l:List Past}{it:List Kv}{c:List UInt8->List Lk}(h:Hist L items ch l it c):∀{s:St},Dc L s it c->
 La s l.reverse=l.reverse.foldl ND s/\∀k(hk:k<l.reverse.length),l.reverse[k].2.2≠0->(Jg ((l.reverse.take k).foldl ND s) l.reverse[k].1.data.toList l.reverse[k].2.1).2=0:=by
 have cons:∀(q:Past)(r:List Past)(s:St),(q.2.2≠0->(Jg s q.1.data.toList q.2.1).2=0)->(La (ND s q) r=r.foldl ND (ND s q)/\∀k(hk:k<r.length),r[k].2.2≠0->(Jg ((r.take k).foldl ND (ND s q)) r[k].1.data.toList r[k].2.1).2=0)->
  La s (q::r)=(q::r).foldl ND s/\∀k(hk:k<(q::r).length),(q::r)[k].2.2≠0->(Jg (((q::r).take k).foldl ND s) (q::r)[k].1.data.toList (q::r)[k].2.1).2=0:=fun q r s h0 h1=>by
  obtain⟨key,v,place⟩:=q;refine⟨?_,fun k hk=> ?_⟩
  ·rw [QR,<-h1.1];unfold ND;simp only;by_cases hp:place=0
   ·rw [La,if_pos hp,if_pos hp]
   ·rw [La,if_neg hp,if_neg hp,if_neg (by rw [h0 hp];simp)]
  ·cases k with
   | zero=>exact h0
   | succ k=>
     intro hz;rw [List.take_succ_cons,QR];exact h1.2 k (by simpa using hk) hz
 induction h with
 | nil=>exact fun _=>⟨rfl,fun k hk=>absurd hk (by simp)⟩
 | skip key _ ih=>
   intro s hs;rw [TG,Qo,Ru];exact cons _ _ s (fun h=>absurd rfl h) (by unfold ND;rw [if_pos rfl];exact ih hs)
 | add hh hs0 hk ho ho0 uS hp hcase ih=>
   intro s hs;rw [TG,Qo,Ru];obtain⟨s1,s2,e1,e2,hs2,_⟩:=aS hs0 hk ho hp hs hcase;rename_i o _ _;have hne:AA o≠0:=fun e=>by
    have:=congrArg TF e;rw [D8 (by omega)]at this;simp at this;omega
   refine cons _ _ s (fun _=>by rw [e1]) ?_;unfold ND;simp only;rw [if_neg hne,e1,LP uS,e2];exact ih hs2
section
variable{l:List Wr}{ps:List (UInt64×UInt64)}{hpl:ps.length<=l.length}{done:List Past}{s:St}
theorem yK(hd:ps=done.map Prod.snd)(hk:∀i(h:i<done.length)(h2:i<l.length),done[i].1=l[i].key)(t:St)(i:Nat)(hi:i<ps.length)(hi2:i<done.length):Uy l ps hpl t ⟨i,hi⟩=ND t done[i]:=by
 unfold Uy ND;have e1:ps[i]=done[i].2:=by subst hd;simp
 simp only [e1,hk i hi2 (by omega)]
theorem QQ(hd:ps=done.map Prod.snd)(hk:∀i(h:i<done.length)(h2:i<l.length),done[i].1=l[i].key):∀k,k<=ps.length->Jk l ps hpl s (EZ ps.length k)=(done.reverse.take k).foldl ND s
 | 0,_=>rfl
 | k+1,h=>by
   have hlen:ps.length=done.length:=by rw [hd];simp
   rw [NZ _ _ (by omega),VT,QQ hd hk k (by omega),List.take_succ_eq_append_getElem (by rw [Hq];omega),zg,yK hd hk _ _ _ (by omega)];have e:done.reverse[k]'(by rw [Hq];omega)=done[ps.length-1-k]'(by omega):=by
    rw [nz];congr 1;omega
   rw [QR,List.foldl_nil,e]
theorem Ace{L:Nat}{items:List Kv}{ch:List UInt8->List Lk}{it:List Kv}{c:List UInt8->List Lk}(h:Hist L items ch done it c)(hs:Dc L s it c)(hd:ps=done.map Prod.snd)(hk:∀i(h:i<done.length)(h2:i<l.length),done[i].1=l[i].key):
 Jk l ps hpl s (EZ ps.length ps.length)=La s done.reverse/\∀k(hk:k<ps.length),¬Uz l ps hpl s (EZ ps.length k) ⟨ps.length-1-k,by omega⟩:=by
 have hlen:ps.length=done.length:=by rw [hd];simp
 obtain⟨g1,g2⟩:=yJ h hs;refine⟨?_,fun k hkl hb=> ?_⟩
 ·rw [QQ hd hk _ (Ae _),g1,List.take_of_length_le (by rw [Hq];omega)]
 ·obtain⟨b1,b2⟩:=hb;have e:done.reverse[k]'(by rw [Hq];omega)=done[ps.length-1-k]'(by omega):=by
   rw [nz];congr 1;omega
  have e1:ps[ps.length-1-k]'(by omega)=(done[ps.length-1-k]'(by omega)).2:=by subst hd;simp
  have hx:=g2 k (by rw [Hq];omega);rw [e]at hx;rw [QQ hd hk _ (by omega)]at b2;simp only [e1]at b1 b2;rw [<-hk _ (by omega) (by omega)]at b2;exact b2 (hx b1)
end
section
variable{w w':World}{base jb x d p L:Nat}{s:St}{stamp:UInt64}{vs:Value}{l:List Wr}{ps:List (UInt64×UInt64)}{over:Bool}{en:Int}{F:Nat->Prop}{v:Value}
theorem lF{m0 m1:DX}{er:Int}(her:er≠0)(h:ES m0 w base jb x d p L s stamp vs l ps false en F v)(hpl:ps.length<=l.length)(hlt:ps.length<l.length)(Aey:l.length<=100000)(hkey:∀y∈l,y.key.size<=1000){s2:St}
 (hwr:∀W',Below w.heap.size w W'->Calls Tryz.prog 48 #[.pointer (some ⟨jb,0,none⟩),NV l[ps.length]] W' fun e w''=>e= .returned (.tuple #[.agg #[.int .u64 0,.int .u64 0],.int .i64 er])/\
  ∃F',Nv m1 w'' x d p L s2 F'/\Jj w'' jb x d p stamp vs v false en F'/\AB F F' W' w'')
 (hmd:ps.length=0\/m1= .up M0)(hok:∀k(hk:k<ps.length),¬Uz l ps hpl s2 (EZ ps.length k) ⟨ps.length-1-k,by omega⟩):
 Calls Tryz.prog 17 #[.pointer (some ⟨jb,0,none⟩)] w fun e w'=>e= .returned (.tuple #[.bool true,.int .i64 er])/\
  ∃F',ES m1 w' base jb x d p L (Jk l ps hpl s2 (EZ ps.length ps.length)) stamp vs l ps true er F' v/\AB (JG F jb v) (JG F' jb v) w w':=by
 have HL:=Aa Aey;have zt:=Aa hkey;have wZ:=Aa hok;have te:(er==0)=false:=by rw [beq_eq_false_iff_ne];exact her
 clear her;clear hkey hok;have HN:=Aa (eP jb _ h.box);have j6:=h.box.cell 6;have j5:=h.box.cell 5;have j4:=h.box.cell 4;have HH:=Aa h;obtain⟨A5,c5,hv5,hc5,_⟩:=Ea h.row;obtain⟨y,hy⟩:∃y,y=l[ps.length]:=⟨_,rfl⟩;obtain⟨b2,off,c2,hv2,hc2,hbw,hnG,q0,q1,q2⟩:=h.set.at ps.length hlt;rw [<-hy]at q0 q1 q2 hwr;obtain⟨k,hk⟩:∃k,k=ps.length:=⟨_,rfl⟩;obtain⟨n,hn⟩:∃n,n=l.length:=⟨_,rfl⟩;rw [<-hn]at hv2 Aey hlt;rw [<-hk]at hv5 q0 q1 q2 hlt hc5;unfold BU at j4 j5 j6;simp only [Ad,Af]at j4 j5 j6;rw [hv2]at j4;rw [hv5]at j5;have hx1:(k:Int)<(n:Int):=by omega
 have hx2:decide ((k:Int)<(n:Int))=true:=decide_eq_true hx1;have hx5:decide (k<n)=true:=decide_eq_true hlt;have SL:Hid (∀W',Below w.heap.size w W'->W'.cell? ⟨jb,4,none⟩=some (.slice (some ⟨b2,off,none⟩) n c2)/\W'.cell? ⟨jb,5,none⟩=some (.slice A5 k c5)/\W'.cell? ⟨b2,off+k*3,none⟩=some (.string y.key)/\W'.cell? ⟨b2,off+k*3+1,none⟩=some (.string y.text)/\W'.cell? ⟨b2,off+k*3+2,none⟩=some (.bool y.gone)):=Aa (fun W' kk=>
  ⟨by rw [(h.box.below kk h.box.lt).cell 4,<-hv2];rfl,by rw [(h.box.below kk h.box.lt).cell 5,<-hv5];rfl,(Bl (w:=w) (kk.block _ hbw)).trans q0,(Bl (w:=w) (kk.block _ hbw)).trans q1,(Bl (w:=w) (kk.block _ hbw)).trans q2⟩)
 have HWr:=Aa hwr;unfold NV at HWr;have hjlt:=h.box.lt;have HFn:Hid (¬F w.heap.size):=Aa (fun hf=>absurd (h.ix.sys.lt _ hf) (by omega));have jM:Hid (0≠w.heap.size/\1≠w.heap.size):=Aa (by have:=h.ix.sys.tabs.lt;omega);have HXl:Hid (x≠w.heap.size):=Aa (by have:=h.ix.box.lt;omega);have HK:=Aa hk;clear h hwr hc2 hnG hk hn hy hv2 hv5;go_enter Tryz.func17,Tryz.ntmps17
 go_wp2_with fail
 refine HN.out.mono ?_;rintro e w1⟨rfl,rfl⟩
 go_wp2_with fail
 go_region
 all_goals(go_wp2_with fail)
 all_goals(
  go_region_with(go_at_call 48;refine(HWr.out _ (by first| exact((Dr.drew w).trans (Dr.drew _)).below _| exact(((Dr.drew w).trans (Dr.drew _)).below _).alloc (Ae _) _| exact((((Dr.drew w).below _).alloc (Ae _) _).drew))).mono ?_;rintro e w5⟨rfl,F5,LZ,hJ5,Ig⟩;try(have zb:BI w5 w.heap.size 115 [.int .u64 0,.int .u64 0]:=(Ig.touch.block w.heap.size (by simp) HFn.out).trans (heap_alloc_new _ _);have z0:=zb.cell 0;have z1:=zb.cell 1;have Wy:=zb.frozen 0;have WA:=zb.frozen 1;simp only [Ad,Af]at z0 z1)))
 all_goals(
  first
  | (have hwb:Below w.heap.size w _:=((Dr.drew w).trans (Dr.drew _)).below w.heap.size
     have hM0:AB F F5 w w5:=(AB.of_below hwb).trans Ig;obtain⟨W6,Qh⟩:∃W6,W6=w5.alloc (.cells #[.int .u64 0,.int .u64 0] 115):=⟨_,rfl⟩;rw [<-Qh];have hb6:Below w5.heap.size w5 W6:=Qh▸(Below.refl _ _).alloc (Ae _) _;have P6:BI W6 w5.heap.size 115 [.int .u64 0,.int .u64 0]:=Qh▸heap_alloc_new _ _;have X6:=LZ.below hb6;have M6:AB F F5 w W6:=hM0.below hb6;obtain⟨g,hg⟩:∃g,g=w5.heap.size:=⟨_,rfl⟩;rw [<-hg]at P6⊢;clear hwb hM0 Qh hb6 hg LZ hJ5 Ig)
  | (have hwb:Below w.heap.size w _:=(((Below.refl w.heap.size w).alloc (Ae _) (.cells #[.int .u64 0,.int .u64 0] 115)).drew).drew
     have hM0:AB F F5 w w5:=(AB.of_below hwb).trans Ig;obtain⟨W6,Qh⟩:∃W6,W6=(w5.setCell ⟨w.heap.size,0,none⟩ (.int .u64 0)).setCell ⟨w.heap.size,1,none⟩ (.int .u64 0):=⟨_,rfl⟩;rw [<-Qh];have t6:Touch (fun k=>k=w.heap.size) w5 W6:=Qh▸((Touch.refl (fun k=>k=w.heap.size) w5).setCell (p:=⟨w.heap.size,0,none⟩) (.inl rfl) _).setCell (p:=⟨w.heap.size,1,none⟩) (.inl rfl) _;have P6:BI W6 w.heap.size 115 [.int .u64 0,.int .u64 0]:=by rw [Qh];exact(zb.AU 0 (.int .u64 0)).AU 1 (.int .u64 0)
     have hnf:¬F5 w.heap.size:=fun h6=>(Ig.own _ h6).elim HFn.out (fun hs=>absurd hs (by simp))
     have X6:Nv m1 W6 x d p L s2 F5:=⟨LZ.sys.keep t6 (fun b hb e=>hnf (e▸hb)) jM.out.1 jM.out.2,LZ.box.touch t6 HXl.out,LZ.out⟩;have M6:AB F F5 w W6:=by rw [Qh];exact(hM0.set (p:=⟨w.heap.size,0,none⟩) (.inr (Ae _)) _).set (p:=⟨w.heap.size,1,none⟩) (.inr (Ae _)) _
     obtain⟨g,hg⟩:∃g,g=w.heap.size:=⟨_,rfl⟩;rw [<-hg]at P6⊢;clear hwb hM0 Qh t6 hnf hg LZ hJ5 Ig zb z0 z1 Wy WA))
 all_goals(
  obtain⟨eX,hMJ⟩:=HH.out.move X6 M6;have p0:=P6.cell 0;have p1:=P6.cell 1;obtain⟨A6,c6,hv6,_,_⟩:=Ea eX.row;have HF:=Aa (fun W'(kb:Below W6.heap.size W6 W')=>Afk (A:=A6) (c:=c6) (by rw [<-hv6];exact eX.below kb) hmd hpl HL.out zt.out er wZ.out);rw [<-hv6]at HF;have HMJ:=Aa hMJ;clear X6 M6 P6 j4 j5 j6 q0 q1 q2 HWr SL HN HFn eX hMJ hv6
  go_wp2_with fail
  refine(HF.out _ (Below.refl _ _)).mono ?_;rintro e w7⟨rfl,F7,hC7,Ur⟩;have HC7:=Aa hC7;have Zg:=Aa Ur;clear hC7 Ur HF p0 p1
  go_wp2_with fail
  go_ret2;exact⟨rfl,F7,HC7.out,HMJ.out.trans Zg.out⟩)
end
section
variable{w:World}{base jb x d p L:Nat}{s0:St}{stamp:UInt64}{vs:Value}{l:List Wr}{F:Nat->Prop}{v:Value}{items:List Kv}{ch:List UInt8->List Lk}{j:rG}
def PT(l:List Wr)(done:List Past):Prop:=∀i(_:i<done.length)(_:i<l.length),done[i].1=l[i].key
theorem PT.app{done:List Past}(h:PT l done)(hl:done.length<l.length)(v q:UInt64):PT l (done++[(l[done.length].key,v,q)]):=fun i h1 h2=>by
 by_cases hi:i<done.length
 ·rw [List.getElem_append_left hi];exact h i hi h2
 ·obtain rfl:i=done.length:=by simp at h1;omega
  simp
def Acf(w:World)(base jb x d p L:Nat)(s0:St)(stamp:UInt64)(vs:Value)(l:List Wr)(F:Nat->Prop)(v:Value)(items:List Kv)(ch:List UInt8->List Lk)(n:Nat)(e:Ending)(w':World):Prop:=
 (e= .returned (.tuple #[.bool false,.int .i64 0])/\n<l.length/\∃(j':rG)(F':Nat->Prop)(v':Value),aT L s0 items ch stamp l j'/\PT l j'.done/\j'.done.length=n+1/\xN w' base jb x d p L j'.s stamp vs l (j'.done.map Prod.snd) false 0 F' v'/\AB (JG F jb v) (JG F' jb v') w w')\/
 (e= .returned (.tuple #[.bool true,.int .i64 6])/\∃(s':St)(F':Nat->Prop),Dc L s' items ch/\OQ s0 s'/\Ix w' x d p L s' F'/\AB (JG F jb v) (JG F' jb v) w w')\/
 (e= .returned (.tuple #[.bool true,.int .i64 0])/\∃(s':St)(F':Nat->Prop),s'.ws 8=stamp/\s'.sh=s0.sh/\(∀i,i<16->i≠8->i≠9->s'.ws i=s0.ws i)/\(∃it c,Dc L s' it c/\∀k,∀y∈c k,y.rc.stamp.toNat<=stamp.toNat)/\Ix w' x d p L s' F'/\AB (JG F jb v) (JG F' jb v) w w')
theorem rP(h:xN w base jb x d p L j.s stamp vs l (j.done.map Prod.snd) false 0 F v)(hj:aT L s0 items ch stamp l j)(hk:PT l j.done)(hr:∀y∈l,Dk y=true)(hu:XW l)(hl:l.length<=100000)(hs0:stamp.toNat≠0)(hst:∀k,∀y∈ch k,y.rc.stamp.toNat<stamp.toNat):
 Calls Tryz.prog 17 #[.pointer (some ⟨jb,0,none⟩)] w (Acf w base jb x d p L s0 stamp vs l F v items ch j.done.length):=by
 have hkey:∀y∈l,y.key.size<=1000:=fun y hy=>by
  have:=hr y hy;unfold Dk at this;simp only [Bool.and_eq_true,decide_eq_true_eq]at this;omega
 have hstep:=step_ok hj hr hu hs0 hst;obtain⟨⟨it,c,hh,hs,hc,hle⟩,hlow,hlen,hrun,hend⟩:=hj;have hpl:(j.done.map Prod.snd).length=j.done.length:=by simp
 by_cases hlt:j.done.length<l.length
 ·have hlt':(j.done.map Prod.snd).length<l.length:=by rw [hpl];exact hlt
  obtain⟨y,hy⟩:∃y,y=l[j.done.length]:=⟨_,rfl⟩;have hyy:l[(j.done.map Prod.snd).length]'hlt'=y:=by rw [hy];congr 1
  have hyr:Dk y=true:=hr y (hy▸CU hlt);have hw:∀W',Below w.heap.size w W'->Calls Tryz.prog 48 #[.pointer (some ⟨jb,0,none⟩),NV y] W' fun e w''=>e= .returned (.tuple #[.agg #[.int .u64 ((DV j.s stamp y).2.1.toNat:Int),.int .u64 ((DV j.s stamp y).2.2.1.toNat:Int)],.int .i64 (DV j.s stamp y).2.2.2])/\
   ∃F',Ix w'' x d p L (DV j.s stamp y).1 F'/\Jj w'' jb x d p stamp vs v false 0 F'/\AB F F' W' w'':=fun W' k=>
   yI (h.ix.below k) hs (h.below k).b y hyr hs0
  unfold MC at hstep;rw [if_neg (by rw [hrun];decide),Ag hlt]at hstep;simp only [<-hy]at hstep;by_cases hc0:(DV j.s stamp y).2.2.2=0
  ·rw [if_neg (by rw [hc0];simp)]at hstep;rw [hc0]at hw;refine(kD (pv:=(DV j.s stamp y).2.1) (pl:=(DV j.s stamp y).2.2.1) (s2:=(DV j.s stamp y).1) h hlt' hl (by rw [hyy];exact hw)).mono ?_;rintro e w'⟨rfl,F',v',hC,hM⟩;rcases hstep with⟨_,_,hd,hok⟩| ⟨_,e2,_⟩| ⟨e2,_⟩
   ·refine .inl ⟨rfl,hlt,_,F',v',hok,?_,hd,?_,hM⟩
    ·show PT l (j.done++[(y.key,_,_)]);rw [hy];exact hk.app hlt _ _
    ·simp only [List.map_append,List.map_cons,List.map_nil];exact hC
   ·cases e2
   ·omega
  ·rw [if_pos hc0]at hstep;rcases hstep with⟨_,e2,_⟩| ⟨_,e2,_,hok,hlo⟩| ⟨e2,_⟩
   ·cases e2
   ·simp only [Prod.mk.injEq,true_and]at e2;have hwr:=Uw hs stamp y hyr hs0 (fun z hz=>by rw [hc j.done.length (Ae _) y (by rw [hy];exact Ag hlt)]at hz;exact hst _ z hz);rcases hwr.2 with⟨e3,hs'⟩| ⟨e3,_⟩| ⟨o,v3,_,e3,_⟩
    ·have e4:(DV j.s stamp y).2.1=0/\(DV j.s stamp y).2.2.1=0:=by rw [e3];exact⟨rfl,rfl⟩
     rw [e4.1,e4.2,e2]at hw;obtain⟨u1,u2⟩:=Ace (hpl:=by rw [hpl];omega) hh hs' rfl hk;refine(lF (s2:=(DV j.s stamp y).1) (er:=6) (by decide) h (by rw [hpl];omega) hlt' hl hkey (by rw [hyy];exact hw) (.inr rfl) u2).mono ?_;rintro e w'⟨rfl,F',hC,hM⟩;rw [u1]at hC;exact .inr (.inl ⟨rfl,_,F',hok,hlo,hC.ix,hM⟩)
    ·rw [e3]at hc0;exact absurd rfl hc0
    ·rw [e3]at hc0;exact absurd rfl hc0
   ·omega
 ·have hle2:j.done.length=l.length:=by omega
  refine(Yv h (by rw [hpl];exact hle2)).mono ?_;rintro e w'⟨rfl,F',hx,_,hM⟩;unfold MC at hstep;rw [if_neg (by rw [hrun];decide),List.getElem?_eq_none (by omega)]at hstep;rcases hstep with⟨e2,_⟩| ⟨e2,_⟩| ⟨_,_,_,e3,e4,e5,e6⟩
  ·omega
  ·omega
  ·exact .inr (.inr ⟨rfl,_,F',e3,e4,e5,e6,hx,hM⟩)
end
end Go.Proofs.YtjcppneoncpdbaaGreatDoor
