import Derived.Test.YtkimaejoeapmnaaGreatDoorG29
import Derived.Test.YtkimaejoeapmnaaGreatDoorG37
set_option maxHeartbeats 32000000
set_option maxRecDepth 100000
open Nat renaming lt_of_lt_of_le->Cf,le_refl->Ad,zero_add->Dw,le_trans->Bg
open List renaming getElem?_cons_zero->Aj,getElem?_cons_succ->Az,getElem_toArray->Ap,getElem_cons_succ->Ah,getElem_cons_zero->Ag,setIfInBounds_toArray->Ae,set_cons_zero->Am,set_cons_succ->Aq,length_append->AQ
open Go.Lib renaming hid->Aa
open Go.World renaming putObj_heap_other->Ie,cell?_of_block->Bz
open UInt64 renaming toNat_inj->Eo
namespace Go.Proofs.YtkimaejoeapmnaaGreatDoor
open Go.RowKit Go.Shelf
attribute [local go_sem]Oper.semAt_some
def jX(l:List Wr)(ps:List (UInt64×UInt64))(hpl:ps.length<=l.length)(s:St)(x:Below' ps.length):St:=
 if(ps[x.1]'x.2).2=0 then s else(J4 (RX s (l[x.1]'(Cf x.2 hpl)).key.data.toList (ps[x.1]'x.2).1).1 (Bi (ps[x.1]'x.2).2)).1
def KA(l:List Wr)(ps:List (UInt64×UInt64))(hpl:ps.length<=l.length)(s:St)(pre:List (Below' ps.length)):St:=pre.foldl (jX l ps hpl) s
def Yj(l:List Wr)(ps:List (UInt64×UInt64))(hpl:ps.length<=l.length)(s:St)(pre:List (Below' ps.length))(x:Below' ps.length):Prop:=
 (ps[x.1]'x.2).2≠0/\(RX (KA l ps hpl s pre) (l[x.1]'(Cf x.2 hpl)).key.data.toList (ps[x.1]'x.2).1).2≠0
theorem ql(l:List Wr)(ps:List (UInt64×UInt64))(hpl:ps.length<=l.length)(s:St)(pre:List (Below' ps.length))(x:Below' ps.length):KA l ps hpl s (pre++[x])=jX l ps hpl (KA l ps hpl s pre) x:=by
 unfold KA;rw [List.foldl_append];rfl
theorem QA{W W':World}{G:Nat->Prop}(B:Nat)(t:Touch G W W')(hG:∀b,G b->b<W.heap.size->LJ W b):KeepsFrom B W W':=⟨t.size,fun k o _ hk ho=>by
 have hkl:=(Array.getElem?_eq_some_iff.1 hk).1;rw [t.block k hkl (fun hg=>by
  obtain⟨o',h1,h2⟩:=hG k hg hkl;rw [hk]at h1;injection h1 with h1
  rw [<-h1,ho]at h2;cases h2)]
 exact hk⟩
theorem Ar1(A:Option Addr)(n c:Nat)(w:World):Calls Tryz.prog 142 #[.slice A n c] w fun e w'=>e= .returned (.func (.func 173) #[] #[Aw w.heap.size])/\w'=w.alloc (.cells #[.slice A n c] 185):=by
 go_enter Tryz.func142,Tryz.ntmps142
 go_wp2_with fail
 refine bodyPost_ret (v:= .func (.func 173) #[] #[Aw w.heap.size]) (by simp [results,Tryz.results142,go_sem]) rfl ?_;exact⟨rfl,rfl⟩
theorem Fv.ends{m0:DW}{w:World}{base jb x d p L:Nat}{s:St}{stamp:UInt64}{vs:Value}{l:List Wr}{ps:List (UInt64×UInt64)}{over:Bool}{en:Int}{F:Nat->Prop}{v:Value}(h:Fv m0 w base jb x d p L s stamp vs l ps over en F v)(er:Int):
 Fv m0 ((w.setCell ⟨jb,6,none⟩ (.bool true)).setCell ⟨jb,7,none⟩ (.int .i64 er)) base jb x d p L s stamp vs l ps true er F v/\AO (JG F jb v) (JG F jb v) w ((w.setCell ⟨jb,6,none⟩ (.bool true)).setCell ⟨jb,7,none⟩ (.int .i64 er)):=by
 have t:Touch (fun b=>b=jb) w ((w.setCell ⟨jb,6,none⟩ (.bool true)).setCell ⟨jb,7,none⟩ (.int .i64 er)):=((Touch.refl (fun b=>b=jb) w).setCell (p:=⟨jb,6,none⟩) (.inl rfl) _).setCell (p:=⟨jb,7,none⟩) (.inl rfl) _;have m:AO (JG F jb v) (JG F jb v) w ((w.setCell ⟨jb,6,none⟩ (.bool true)).setCell ⟨jb,7,none⟩ (.int .i64 er)):=⟨t.mono (fun b e=> .inr (.inl e)),fun b hb=> .inl hb⟩;exact⟨⟨⟨h.ix.sys.keep t (fun b hb e=>h.fj (e▸hb)) h.gj.1 h.gj.2,h.ix.box.touch t h.xj,h.ix.out⟩,(h.box.AZ 6 (.bool true)).AZ 7 (.int .i64 er),H6 h.row t (fun b hb e=>h.mj (e▸hb)),h.set.moved m,h.fj,h.bj,h.bx,h.bt,h.mj,h.mF⟩,m⟩
theorem Aj3{m0:DW}{w:World}{base jb xx d p L:Nat}{s:St}{stamp:UInt64}{vs:Value}{l:List Wr}{ps:List (UInt64×UInt64)}{en:Int}{F:Nat->Prop}{A:Option Addr}{c:Nat}(h:Fv m0 w base jb xx d p L s stamp vs l ps false en F (.slice A ps.length c))(hmd:ps.length=0\/m0= .up M0)(hpl:ps.length<=l.length)(hl:l.length<=100000)(hkey:∀y∈l,y.key.size<=1000)(er:Int)
 (hok:∀k(hk:k<ps.length),¬Yj l ps hpl s (Gj ps.length k) ⟨ps.length-1-k,by omega⟩):
 Calls Tryz.prog 94 #[Aw jb,.int .i64 er] w fun e w'=>e= .returned (.int .i64 er)/\∃F',Fv m0 w' base jb xx d p L (KA l ps hpl s (Gj ps.length ps.length)) stamp vs l ps true er F' (.slice A ps.length c)/\
  AO (JG F jb (.slice A ps.length c)) (JG F' jb (.slice A ps.length c)) w w':=by
 have hjl:=h.box.lt;have j5:=h.box.cell 5;unfold DI at j5;simp only [Aj,Az]at j5;have HH:=Aa h;obtain⟨g,hgc⟩:∃g,A=some ⟨g,0,none⟩\/(g=jb/\ps.length=0):=by
  rcases h.row.2 with⟨h1,h2⟩| ⟨g,cap,cur,h1,_⟩
  ·exact⟨jb,.inr ⟨rfl,by injection h1⟩⟩
  ·exact⟨g,.inl (by injection h1)⟩
 have hgA:0<ps.length->A=some ⟨g,0,none⟩:=fun h0=>hgc.resolve_right (fun h1=>by omega)
 have HG:Hid (∀(W:World)(F':Nat->Prop)(s':St),Fv m0 W base jb xx d p L s' stamp vs l ps false en F' (.slice A ps.length c)->g<W.heap.size/\¬F' g):=Aa (fun W F' s' hc=>by
  rcases hgc with h1| ⟨h1,_⟩
  ·exact⟨(hc.mlt g (by rw [h1];rfl)).2,hc.mF g (by rw [h1];rfl)⟩
  ·subst h1;exact⟨hc.box.lt,hc.fj⟩)
 have hgl:g<w.heap.size:=(HG.out _ _ _ h).1;refine(callsIn_wide (n:=3)).1 ?_;refine callsIn_of_wp_marks Tryz.func94 rfl trivial ?_ rfl;simp only [Tryz.ntmps94,List.size_toArray,List.length_cons,List.length_nil,Nat.reduceAdd,Nat.reduceSub,Array.replicate_succ,Array.replicate_zero,List.push_toArray,List.append_toArray,List.nil_append,List.cons_append]
 gi_wp2_with(refine⟨trivial,?_⟩;gi_at_call 142;refine(callsIn_wide.2 (Ar1 _ _ _ _)).mono ?_;rintro e w'⟨rfl,rfl⟩)
 obtain⟨W3,hW3⟩:∃W3,W3=(w.alloc (.cells #[Aw jb] 120)).alloc (.cells #[.slice A ps.length c] 185):=⟨_,rfl⟩;rw [<-hW3];have hb3:Below w.heap.size w W3:=hW3▸((Below.refl _ w).alloc (Ad _) _).alloc (by simp) _;have B2:CG W3 w.heap.size 120 [Aw jb]:=by rw [hW3];exact(heap_alloc_old _ _ _ (by simp)).trans (heap_alloc_new _ _)
 have Bn:CG W3 (w.heap.size+1) 185 [.slice A ps.length c]:=by
  have:=heap_alloc_new (w.alloc (.cells #[Aw jb] 120)) (.cells #[.slice A ps.length c] 185);rw [show(w.alloc (.cells #[Aw jb] 120)).heap.size=w.heap.size+1 by simp,<-hW3]at this;exact this
 have hs3:W3.heap.size=w.heap.size+2:=by rw [hW3];simp
 have hC3:=h.below hb3;have hrow3:∀i(h:i<ps.length),W3.cell? ⟨g,i*2,none⟩=some (.int .u64 (ps[i].1.toNat:Int))/\W3.cell? ⟨g,i*2+1,none⟩=some (.int .u64 (ps[i].2.toNat:Int)):=fun i hi=>by
  obtain⟨A',c',e',_,hr⟩:=DN hC3.row;obtain⟨b,off,e2,_,hc⟩:=hr.2 (by omega);injection e' with e' _ _
  rw [hgA (by omega)]at e';subst e';injection e2 with e2
  injection e2 with e3 e4
  subst e3 e4;have hf:=flat_get zt 2 (fun _=>rfl) ps i;refine⟨?_,?_⟩
  ·have:=hc (i*2) (by omega);rw [Dw]at this;rw [this];exact hf 0 hi (by decide)
  ·have:=hc (i*2+1) (by omega);rw [Dw]at this;rw [this];exact hf 1 hi (by decide)
 have HKk:=Aa hkey;have iQ:=Aa hok;have htab:=h.ix.sys.tabs.lt;have hxl:=h.ix.box.lt;have p1:=Bn.p1;refine wpIn_rangeFunc_ownH rfl (by decide) (gf:=173) (lb:= #[Aw (w.heap.size+1)]) rfl trivial (enters_of Tryz.func173 (by kernel_rfl) rfl)
  (encs:=fun x:Below' ps.length=> #[.int .i64 (x.1:Int),ZG (ps[x.1]'x.2)]) (Kp:=oQ g (w.heap.size+1)) (S:=fun xs=>xs=Gj ps.length ps.length) (Sp:=fun pre=>pre<+:Gj ps.length ps.length) (N:=ps.length) (w0:=W3)
  (Ajg Fence.wide 2 trivial rfl (by decide) (w.heap.size+1) g c A ps (by omega) hgA W3 p1 hrow3 (by omega)) (fun h1 h2=>⟨h2.1.trans h1.1,h2.2.trans h1.2⟩) (fun W k o o' hk ho h1 _=>⟨Ie (by omega),Ie (by omega)⟩) (Below.refl _ _) (fun _=>rfl)
  (fun pre W=>(∃F',Fv m0 W base jb xx d p L (KA l ps hpl s pre) stamp vs l ps false en F' (.slice A ps.length c)/\AO (JG F jb (.slice A ps.length c)) (JG F' jb (.slice A ps.length c)) w W)/\(CG W w.heap.size 120 [Aw jb]/\CG W (w.heap.size+1) 185 [.slice A ps.length c])/\W3.heap.size<=W.heap.size)
  (fun e pre _=>e= .exit 0/\∃qm x,pre=qm++[x]/\Yj l ps hpl s qm x)
  ?hI (fun _ _ _ _ _ hs _ _=>hs) ⟨⟨F,hC3,AO.of_below hb3⟩,⟨B2,Bn⟩,Ad _⟩
  (fun x a' W=>∃Bx,W3.heap.size<=Bx/\CG W Bx 189 [.int .u64 ((ps[x.1]'x.2).1.toNat:Int),.int .u64 ((ps[x.1]'x.2).2.toNat:Int)]/\a'={tmps:= #[Aw jb,.int .i64 er,Aw w.heap.size,undef,.int .i64 0,.int .i64 (x.1:Int),Aw Bx,Aw jb,Aw jb,.pointer (some ⟨jb,5,none⟩),.slice A ps.length c,.func (.func 173) #[] #[Aw (w.heap.size+1)],.int .i64 (x.1:Int),ZG (ps[x.1]'x.2),undef,undef,undef,undef,undef,undef,undef,undef,undef,undef,undef,undef,undef,undef,undef,undef,undef,undef,undef,undef,undef,undef,undef,undef,undef,undef,undef,undef,undef,undef,undef,undef],defers:=[]})
  ?hAx ?assign ?body ?done ?stop
 case hI=>
  rintro pre X Y row⟨⟨F',hC,hM⟩,⟨hB2,hBn⟩,hsz⟩hg hr;have hno:∀r,row=some r->¬LJ X r:=fun r e⟨o,h1,h2⟩=>by
   obtain⟨_,o',h3,h4⟩:=hr r e;rw [h1]at h3;injection h3 with h3
   rw [h3,h4]at h2;cases h2
  have t:=Ky hg;exact⟨⟨F',hC.abide hg hno,⟨hM.touch.trans t (fun b e=> .inr (by have:=(hr b e).1;omega)),hM.own⟩⟩,⟨hB2.touch t (fun e=>hno _ e (Ip hB2)),hBn.touch t (fun e=>hno _ e (Ip hBn))⟩,Bg hsz t.size⟩
 case hAx=>
  intro x a';rintro u X Y row⟨Bx,h1,h2,h3⟩hg hr;refine⟨Bx,h1,h2.touch (Ky hg) (fun e=> ?_),h3⟩;obtain⟨_,o',h4,h5⟩:=hr Bx e;obtain⟨o,h6,h7⟩:=Ip h2;rw [h6]at h4;injection h4 with h4
  rw [h4,h5]at h7;cases h7
 case assign=>
  rintro l0 pre x W K⟨⟨F',hC,hM⟩,⟨hB2,hBn⟩,hsz⟩hK;have hgW:g<W.heap.size:=(HG.out _ _ _ hC).1;unfold ZG at hK⊢;have HK:=Aa hK;have HC:=Aa hC;have HM:=Aa hM;have HB2:=Aa hB2;have HBn:=Aa hBn;clear hK hC hM hB2 hBn;gi_wp2;have hbW:∀o,Below W.heap.size W (W.alloc o):=fun o=>(Below.refl _ _).alloc (Ad _) _
  exact HK.out _ _ ((KeepsOthers.alloc _ _).from _) ⟨by first|exact heap_alloc_old _ _ hgW|exact heap_alloc_old _ _ _ hgW,by first|exact heap_alloc_old _ _ (by omega)|exact heap_alloc_old _ _ _ (by omega)⟩ ⟨⟨F',HC.out.below (hbW _),HM.out.below (hbW _)⟩,⟨HB2.out.below (hbW _) HB2.out.lt,HBn.out.below (hbW _) HBn.out.lt⟩,by have:=(hbW (.cells #[] 189)).size;simp at this⊢;omega⟩ ⟨W.heap.size,hsz,heap_alloc_new _ _,rfl⟩
 case body=>
  rintro l0 pre x a' W hl0⟨r,hr0⟩⟨⟨F',hC,hM⟩,⟨hB2,hBn⟩,hsz⟩⟨Bx,hBx1,hBx,rfl⟩hlen;have HMd:Hid (m0= .up M0):=Aa (hmd.resolve_left (fun e=>by have:=x.2;omega));have Ac0:x.1<l.length:=Cf x.2 hpl;obtain⟨b2,off,c2,hv2,hc2,hbw,hnG,q0,q1,q2⟩:=hC.set.at x.1 Ac0;have hkx:=HKk.out l[x.1] (List.getElem_mem Ac0);have hsn:=ql l ps hpl s pre x;have Ani:Hid (∀h:(ps[x.1]'x.2).2≠0,(RX (KA l ps hpl s pre) (l[x.1]'Ac0).key.data.toList (ps[x.1]'x.2).1).2≠0->Yj l ps hpl s pre x):=Aa (fun h k=>⟨h,k⟩);unfold jX at hsn;have HC:=Aa hC;have HM:=Aa hM;have HSn:=Aa hsn;have x0:=hBx.cell 0;have x1:=hBx.cell 1;have y0:=hB2.cell 0;simp only [Aj,Az]at x0 x1 y0;have HB2:=Aa hB2;have HBx:=Aa hBx;have HBn:=Aa hBn;clear hC hM hsn hB2 hBx hBn;by_cases hz:(ps[x.1]'x.2).2=0
  ·rw [hz]at x1;have HS2:Hid (KA l ps hpl s (pre++[x])=KA l ps hpl s pre):=Aa (by rw [HSn.out,if_pos hz]);replace x1:W.cell? ⟨Bx,1,none⟩=some (.int .u64 0):=x1;clear hz HSn Ani;unfold ZG;gi_wp2;exact⟨KeepsFrom.refl _ _,⟨rfl,rfl⟩,⟨⟨F',by rw [HS2.out];exact HC.out,HM.out⟩,⟨HB2.out,HBn.out⟩,hsz⟩⟩
  ·have hS2:KA l ps hpl s (pre++[x])=(J4 (RX (KA l ps hpl s pre) (l[x.1]'Ac0).key.data.toList (ps[x.1]'x.2).1).1 (Bi (ps[x.1]'x.2).2)).1:=by rw [HSn.out,if_neg hz]
   have HS2:=Aa hS2;have qo:=Aa (Ani.out hz);have t1:(((ps[x.1]'x.2).2.toNat:Int)==0)=false:=by rw [beq_eq_false_iff_ne];intro e;exact hz (Eo.1 (by simp;omega))
   have t2:((ps[x.1]'x.2).2.toNat==0)=false:=by rw [beq_eq_false_iff_ne];intro e;exact hz (Eo.1 (by simp;omega))
   clear hz HSn Ani hS2;unfold ZG;generalize ps[x.1]'x.2=px at*;generalize l[x.1]'Ac0=yx at*;have hd:1<=3-1-1:=by decide
   have hmx:Tryz.prog.follows .mixedOrders=true:=by kernel_rfl
   have j4:=HC.out.box.cell 4;have j1:=HC.out.box.cell 1;unfold DI at j1 j4;simp only [Aj,Az]at j1 j4;rw [hv2]at j4;have hx1:(x.1:Int)<(l.length:Int):=by omega
   have hx2:decide ((x.1:Int)<(l.length:Int))=true:=decide_eq_true hx1;have hx5:decide (x.1<l.length)=true:=decide_eq_true Ac0;have HXi:Hid (Ix W xx d p L (KA l ps hpl s pre) F'):=Aa (by have h:=HC.out.ix;rw [HMd.out]at h;exact h);have HUn:=Aa (fun W'(k:Below W.heap.size W W')=>Aj1 (HXi.out.below k) (⟨HC.out.box.below k HC.out.box.lt,HC.out.fj⟩:NT W' jb xx d p stamp vs (.slice A ps.length c) false en F') yx.key hkx px.1);obtain⟨ur,hur⟩:∃ur,ur=RX (KA l ps hpl s pre) yx.key.data.toList px.1:=⟨_,rfl⟩;rw [<-hur]at HUn HS2 qo;clear hur;have nB2:¬F' w.heap.size:=HC.out.ix.sys.jG HB2.out (by decide);have nBx:¬F' Bx:=HC.out.ix.sys.jG HBx.out (by decide);have nBn:¬F' (w.heap.size+1):=HC.out.ix.sys.jG HBn.out (by decide);have ng:¬F' g:=(HG.out _ _ _ HC.out).2;have hgW:g<W.heap.size:=(HG.out _ _ _ HC.out).1;have nb2:¬F' b2:=fun h=>hnG (.inl h)
   have kS:Hid (∀w5 F5,AO F' F5 W.drew w5->AO F' F5 W w5/\(w5.cell? ⟨w.heap.size,0,none⟩=some (Aw jb)/\w5.cell? ⟨jb,4,none⟩=some (.slice (some ⟨b2,off,none⟩) l.length c2)/\w5.cell? ⟨b2,off+x.1*3,none⟩=some (.string yx.key)/\w5.cell? ⟨Bx,0,none⟩=some (.int .u64 (px.1.toNat:Int)))):=Aa (fun w5 F5 hm=>by
    have m:AO F' F5 W w5:=(AO.of_below ((Dr.drew W).below _)).trans hm;have bl:∀b,b<W.heap.size->¬F' b->w5.heap[b]? =W.heap[b]? :=fun b hb hn=>m.touch.block b hb hn
    exact⟨m,(Bz (bl _ HB2.out.lt nB2)).trans y0,(Bz (bl _ HC.out.box.lt HC.out.fj)).trans j4,(Bz (bl _ hbw nb2)).trans q0,(Bz (bl _ HBx.out.lt nBx)).trans x0⟩)
   obtain⟨s5,r5⟩:=ur;simp only at HUn HS2 qo;clear q1 q2;gi_wp2;by_cases uk:r5=0
   ·subst uk;clear qo;refine Ir (S:=(fun w'=>w'.cell? ⟨w.heap.size,0,none⟩=some (Aw jb)/\w'.cell? ⟨jb,4,none⟩=some (.slice (some ⟨b2,off,none⟩) l.length c2)/\w'.cell? ⟨b2,off+x.1*3,none⟩=some (.string yx.key)/\w'.cell? ⟨Bx,0,none⟩=some (.int .u64 (px.1.toNat:Int)))) (by kernel_rfl) (by kernel_rfl) ⟨y0,j4,q0,x0⟩ (fun hHeld=> ?_);refine Ef 0 (Aw jb) hHeld (hy:=fun w hSw=>by obtain⟨s0,s1,s2,s3⟩:=hSw;go_simp) ?_;refine Ef 1 (Aw jb) hHeld (hy:=fun w hSw=>by obtain⟨s0,s1,s2,s3⟩:=hSw;go_simp) ?_;refine Ef 2 (Aw jb) hHeld ?_;refine Ef 3 (.pointer (some ⟨jb,4,none⟩)) hHeld ?_
    try simp only [Act.put,Ap,Ah,Ag,Ae,Am,Aq]
    refine Ef 4 (.slice (some ⟨b2,off,none⟩) l.length c2) hHeld (hy:=fun w hSw=>by obtain⟨s0,s1,s2,s3⟩:=hSw;go_simp) ?_;refine Ef 5 (.int .i64 (x.1:Int)) hHeld ?_;refine Ef 6 (.pointer (some ⟨b2,off+x.1*3,none⟩)) hHeld ?_;refine Ef 7 (.pointer (some ⟨b2,off+x.1*3,none⟩)) hHeld ?_
    try simp only [Act.put,Ap,Ah,Ag,Ae,Am,Aq]
    refine Ef 8 (.string yx.key) hHeld (hy:=fun w hSw=>by obtain⟨s0,s1,s2,s3⟩:=hSw;go_simp) ?_;refine Ef 9 (Aw Bx) hHeld ?_;refine Ef 10 (.int .u64 (px.1.toNat:Int)) hHeld (hy:=fun w hSw=>by obtain⟨s0,s1,s2,s3⟩:=hSw;go_simp) ?_
    try simp only [Act.put,Ap,Ah,Ag,Ae,Am,Aq]
    refine wpAnyH_ready (rs:=[11]) (by kernel_rfl) (by simp) ?_;refine AllReadyH.cons rfl (fun K hK=> ?_) AllReadyH.nil;go_simp;go_at_call 143;refine(HUn.out _ ((Dr.drew W).below _)).mono ?_;rintro e w5⟨rfl,F5,VV,Pz⟩;obtain⟨hM,hS5⟩:=kS.out w5 F5 Pz;refine hK.out _ _ (hS5) (fun hHeld=> ?_);clear hK K
    try simp only [Act.put,Ap,Ah,Ag,Ae,Am,Aq]
    refine Ef 12 (.bool false) hHeld ?_
    try simp only [Act.put,Ap,Ah,Ag,Ae,Am,Aq]
    refine wpAnyH_done (by kernel_rfl) ?_ _;refine⟨nofun,?_⟩;have QY:=Aa hM;have su:=Aa VV;have y5:=hHeld.1;have k5:=(HC.out.box.touch hM.touch HC.out.fj);have kx:=HBx.out.touch hM.touch nBx;clear VV Pz hM hS5 hHeld kS HUn q0 y0 x0 x1 j1 j4;have j1:=k5.cell 1;have x1:=kx.cell 1;unfold DI at j1;simp only [Aj,Az]at j1 x1;have HJ5:=Aa k5;have HY5:=Aa kx;have Jy:=Aa (HB2.out.touch QY.out.touch nB2);clear k5 kx;have n5:¬F5 w.heap.size:=QY.out.out HB2.out.lt nB2;have n5x:¬F5 Bx:=QY.out.out HBx.out.lt nBx;have n5j:¬F5 jb:=QY.out.out HC.out.box.lt HC.out.fj;have hof: -9223372036854775808<=Bi px.2/\Bi px.2<=9223372036854775807:=Qc px.2;have kM:=Aa (fun W'(k:Below w5.heap.size w5 W')=>VD (su.out.sys.below k) (Bi px.2) hof);have HKq:Hid (∀w6 F6,AO F5 F6 w5.drew w6->AO F5 F6 w5 w6/\(w6.cell? ⟨w.heap.size,0,none⟩=some (Aw jb)/\w6.cell? ⟨jb,1,none⟩=some (Aw p)/\w6.cell? ⟨Bx,1,none⟩=some (.int .u64 (px.2.toNat:Int)))):=Aa (fun w6 F6 hm=>by
     have m:AO F5 F6 w5 w6:=(AO.of_below ((Dr.drew w5).below _)).trans hm;have bl:∀b,b<w5.heap.size->¬F5 b->w6.heap[b]? =w5.heap[b]? :=fun b hb hn=>m.touch.block b hb hn
     exact⟨m,(Bz (bl _ Jy.out.lt n5)).trans y5,(Bz (bl _ HJ5.out.lt n5j)).trans j1,(Bz (bl _ HY5.out.lt n5x)).trans x1⟩)
    clear hof;gi_wp2;refine Ir (S:=(fun w'=>w'.cell? ⟨w.heap.size,0,none⟩=some (Aw jb)/\w'.cell? ⟨jb,1,none⟩=some (Aw p)/\w'.cell? ⟨Bx,1,none⟩=some (.int .u64 (px.2.toNat:Int)))) (by kernel_rfl) (by kernel_rfl) ⟨y5,j1,x1⟩ (fun hHeld=> ?_);refine Ef 0 (Aw jb) hHeld (hy:=fun w hSw=>by obtain⟨s0,s1,s2⟩:=hSw;go_simp) ?_;refine Ef 1 (Aw jb) hHeld ?_;refine Ef 2 (.pointer (some ⟨jb,1,none⟩)) hHeld ?_;refine Ef 3 (Aw p) hHeld (hy:=fun w hSw=>by obtain⟨s0,s1,s2⟩:=hSw;go_simp) ?_
    try simp only [Act.put,Ap,Ah,Ag,Ae,Am,Aq]
    refine Ef 4 (.pointer (some ⟨Bx,1,none⟩)) hHeld ?_;refine Ef 5 (.int .u64 (px.2.toNat:Int)) hHeld (hy:=fun w hSw=>by obtain⟨s0,s1,s2⟩:=hSw;go_simp) ?_;refine Ef 6 (.int .i64 (Bi px.2)) hHeld (hy:=fun w hSw=>by clear hSw;go_simp;rfl) ?_
    try simp only [Act.put,Ap,Ah,Ag,Ae,Am,Aq]
    refine wpAnyH_ready (rs:=[7]) (by kernel_rfl) (by simp) ?_;refine AllReadyH.cons rfl (fun K hK=> ?_) AllReadyH.nil;go_simp;go_at_call 73;refine(kM.out _ ((Dr.drew w5).below _)).mono ?_;rintro e w6⟨rfl,F6,Ar2,kU⟩;obtain⟨hM,hS6⟩:=HKq.out w6 F6 kU;refine hK.out _ _ (hS6) (fun hHeld=> ?_);clear hK K
    try simp only [Act.put,Ap,Ah,Ag,Ae,Am,Aq]
    refine wpAnyH_done (by kernel_rfl) ?_ _;refine⟨nofun,?_⟩;have TY:=Aa hM;have kV:=Aa (su.out.move Ar2 hM);clear Ar2 kU hM hS6 hHeld HKq kM;gi_wp2;have mm:AO F' F6 W w6:=QY.out.trans TY.out;obtain⟨c6,m6⟩:=HC.out.move (HS2.out▸kV.out) mm;exact⟨QA _ mm.touch (fun b hb _=>HC.out.ix.sys.cells hb),⟨mm.touch.block _ hgW ng,mm.touch.block _ HBn.out.lt nBn⟩,⟨⟨F6,by rw [HMd.out];exact c6,HM.out.trans m6⟩,⟨HB2.out.touch mm.touch nB2,HBn.out.touch mm.touch nBn⟩,Bg hsz mm.touch.size⟩⟩
   ·have t5:(r5==0)=false:=by rw [beq_eq_false_iff_ne];exact uk
    have hbd:=qo.out uk;have HB:=Aa hbd;clear qo HS2 hbd;refine Ir (S:=(fun w'=>w'.cell? ⟨w.heap.size,0,none⟩=some (Aw jb)/\w'.cell? ⟨jb,4,none⟩=some (.slice (some ⟨b2,off,none⟩) l.length c2)/\w'.cell? ⟨b2,off+x.1*3,none⟩=some (.string yx.key)/\w'.cell? ⟨Bx,0,none⟩=some (.int .u64 (px.1.toNat:Int)))) (by kernel_rfl) (by kernel_rfl) ⟨y0,j4,q0,x0⟩ (fun hHeld=> ?_);refine Ef 0 (Aw jb) hHeld (hy:=fun w hSw=>by obtain⟨s0,s1,s2,s3⟩:=hSw;go_simp) ?_;refine Ef 1 (Aw jb) hHeld (hy:=fun w hSw=>by obtain⟨s0,s1,s2,s3⟩:=hSw;go_simp) ?_;refine Ef 2 (Aw jb) hHeld ?_;refine Ef 3 (.pointer (some ⟨jb,4,none⟩)) hHeld ?_
    try simp only [Act.put,Ap,Ah,Ag,Ae,Am,Aq]
    refine Ef 4 (.slice (some ⟨b2,off,none⟩) l.length c2) hHeld (hy:=fun w hSw=>by obtain⟨s0,s1,s2,s3⟩:=hSw;go_simp) ?_;refine Ef 5 (.int .i64 (x.1:Int)) hHeld ?_;refine Ef 6 (.pointer (some ⟨b2,off+x.1*3,none⟩)) hHeld ?_;refine Ef 7 (.pointer (some ⟨b2,off+x.1*3,none⟩)) hHeld ?_
    try simp only [Act.put,Ap,Ah,Ag,Ae,Am,Aq]
    refine Ef 8 (.string yx.key) hHeld (hy:=fun w hSw=>by obtain⟨s0,s1,s2,s3⟩:=hSw;go_simp) ?_;refine Ef 9 (Aw Bx) hHeld ?_;refine Ef 10 (.int .u64 (px.1.toNat:Int)) hHeld (hy:=fun w hSw=>by obtain⟨s0,s1,s2,s3⟩:=hSw;go_simp) ?_
    try simp only [Act.put,Ap,Ah,Ag,Ae,Am,Aq]
    refine wpAnyH_ready (rs:=[11]) (by kernel_rfl) (by simp) ?_;refine AllReadyH.cons rfl (fun K hK=> ?_) AllReadyH.nil;go_simp;go_at_call 143;refine(HUn.out _ ((Dr.drew W).below _)).mono ?_;rintro e w5⟨rfl,F5,VV,Pz⟩;obtain⟨hM,hS5⟩:=kS.out w5 F5 Pz;refine hK.out _ _ (hS5) (fun hHeld=> ?_);clear hK K
    try simp only [Act.put,Ap,Ah,Ag,Ae,Am,Aq]
    refine Ef 12 (.bool true) hHeld ?_
    try simp only [Act.put,Ap,Ah,Ag,Ae,Am,Aq]
    refine wpAnyH_done (by kernel_rfl) ?_ _;refine⟨nofun,?_⟩;have QY:=Aa hM;clear VV Pz hM hS5 hHeld kS HUn;gi_wp2;exact⟨QA _ QY.out.touch (fun b hb _=>HC.out.ix.sys.cells hb),⟨rfl,pre,x,rfl,HB.out⟩⟩
 case done=>
  rintro D xs W hD rfl⟨⟨F',hC,hM⟩,⟨hB2,hBn⟩,hsz⟩hDf;have y0:=hB2.p1;have f6:=hC.box.frozen 6;have f7:=hC.box.frozen 7;have y6:=hC.box.cell 6;have y7:=hC.box.cell 7;unfold DI at y6 y7;simp only [Aj,Az]at y6 y7;have HC:=Aa hC;have HM:=Aa hM;clear hC hM hB2 hBn;gi_wp2;refine wpIn_wide.2 ?_;go_region;have hK2:=(KeepsOthers.setCell (W.setCell ⟨jb,6,none⟩ (.bool true)) ⟨jb,7,none⟩ (.int .i64 er)).same D _ ((KeepsOthers.setCell W ⟨jb,6,none⟩ (.bool true)).same D _ hDf rfl) rfl;gi_wp2;refine⟨by simp,.inl ⟨_,_,rfl,run_takeDeferred hK2,?_⟩⟩;refine⟨.int .i64 er,by simp [results,Tryz.results94,go_sem],rfl,F',?_⟩;obtain⟨c6,m6⟩:=HC.out.ends er;have hbd:=((Dr.drew ((W.setCell ⟨jb,6,none⟩ (.bool true)).setCell ⟨jb,7,none⟩ (.int .i64 er))).below ((W.setCell ⟨jb,6,none⟩ (.bool true)).setCell ⟨jb,7,none⟩ (.int .i64 er)).heap.size);have hK3:((W.setCell ⟨jb,6,none⟩ (.bool true)).setCell ⟨jb,7,none⟩ (.int .i64 er)).drew.heap[D]? =some (.deferred (some [])):=hK2;have c7:=(c6.below hbd).abide (grownBy_putObj' _ D (.deferred none)) (fun r e=>by
   cases e
   rintro⟨o,h1,h2⟩;rw [hK3]at h1;injection h1 with h1
   rw [<-h1]at h2;cases h2)
  refine⟨c7,((HM.out.trans m6).below hbd).touch.trans (Ky (grownBy_putObj' _ D (.deferred none))) (fun b e=> ?_),fun b hb=>((HM.out.trans m6).own b hb)⟩;cases e
  exact .inr (by omega)
 case stop=>
  rintro D e pre W hD hpre⟨rfl,qm,x,rfl,hbad⟩hK;exfalso;have hpl2:qm.length+1<=ps.length:=by have:=hpre.length_le;rw [NJ _ _ (Ad _),AQ]at this;exact this
  have e1:qm++[x]=Gj ps.length (qm.length+1):=by
   have h2:=Ua ps.length (qm.length+1) ps.length hpl2;exact(List.prefix_of_prefix_length_le hpre h2 (by rw [NJ _ _ hpl2,AQ];exact Ad _)).eq_of_length (by rw [NJ _ _ hpl2,AQ];rfl)
  rw [Ro _ _ (by omega)]at e1;obtain⟨e2,e3⟩:=List.append_inj' e1 rfl;injection e3 with e3 _
  refine iQ.out qm.length (by omega) ?_;rw [<-e2,<-e3];exact hbad
end Go.Proofs.YtkimaejoeapmnaaGreatDoor
namespace Go.Proofs.YtkimaejoeapmnaaGreatDoor
open Go.RowKit
section
variable{w:World}{x d p L:Nat}{s:St}{F:Nat->Prop}
end
section
variable{l:List Wr}{ps:List (UInt64×UInt64)}{hpl:ps.length<=l.length}{s:St}
end
section
variable{w w':World}{base jb x d p L:Nat}{s:St}{stamp:UInt64}{vs:Value}{l:List Wr}{ps:List (UInt64×UInt64)}{over:Bool}{en:Int}{F:Nat->Prop}{v:Value}
theorem Agq{m0 m1:DW}{er:Int}(her:er≠0)(h:Fv m0 w base jb x d p L s stamp vs l ps false en F v)(hpl:ps.length<=l.length)(hlt:ps.length<l.length)(Ajf:l.length<=100000)(hkey:∀y∈l,y.key.size<=1000){s2:St}
 (hwr:∀W',Below w.heap.size w W'->Calls Tryz.prog 93 #[Aw jb,Xe l[ps.length]] W' fun e w''=>e= .returned (.tuple #[.agg #[.int .u64 0,.int .u64 0],.int .i64 er])/\
  ∃F',IX m1 w'' x d p L s2 F'/\NT w'' jb x d p stamp vs v false en F'/\AO F F' W' w'')
 (hmd:ps.length=0\/m1= .up M0)(hok:∀k(hk:k<ps.length),¬Yj l ps hpl s2 (Gj ps.length k) ⟨ps.length-1-k,by omega⟩):
 Calls Tryz.prog 47 #[Aw jb] w fun e w'=>e= .returned (.tuple #[.bool true,.int .i64 er])/\
  ∃F',Fv m1 w' base jb x d p L (KA l ps hpl s2 (Gj ps.length ps.length)) stamp vs l ps true er F' v/\AO (JG F jb v) (JG F' jb v) w w':=by
 have HL:=Aa Ajf;have HHk:=Aa hkey;have iQ:=Aa hok;have te:(er==0)=false:=by rw [beq_eq_false_iff_ne];exact her
 clear her;clear hkey hok;have HN:=Aa (jD jb _ h.box);have j6:=h.box.cell 6;have j5:=h.box.cell 5;have j4:=h.box.cell 4;have HH:=Aa h;obtain⟨A5,c5,hv5,hc5,_⟩:=DN h.row;obtain⟨y,hy⟩:∃y,y=l[ps.length]:=⟨_,rfl⟩;obtain⟨b2,off,c2,hv2,hc2,hbw,hnG,q0,q1,q2⟩:=h.set.at ps.length hlt;rw [<-hy]at q0 q1 q2 hwr;obtain⟨k,hk⟩:∃k,k=ps.length:=⟨_,rfl⟩;obtain⟨n,hn⟩:∃n,n=l.length:=⟨_,rfl⟩;rw [<-hn]at hv2 Ajf hlt;rw [<-hk]at hv5 q0 q1 q2 hlt hc5;unfold DI at j4 j5 j6;simp only [Aj,Az]at j4 j5 j6;rw [hv2]at j4;rw [hv5]at j5;obtain⟨hx1,hx2,hx5⟩:=aJ hlt;have QD:Hid (∀W',Below w.heap.size w W'->W'.cell? ⟨jb,4,none⟩=some (.slice (some ⟨b2,off,none⟩) n c2)/\W'.cell? ⟨jb,5,none⟩=some (.slice A5 k c5)/\W'.cell? ⟨b2,off+k*3,none⟩=some (.string y.key)/\W'.cell? ⟨b2,off+k*3+1,none⟩=some (.string y.text)/\W'.cell? ⟨b2,off+k*3+2,none⟩=some (.bool y.gone)):=Aa (fun W' kk=>
  ⟨by rw [(h.box.below kk h.box.lt).cell 4,<-hv2];rfl,by rw [(h.box.below kk h.box.lt).cell 5,<-hv5];rfl,(Bz (w:=w) (kk.block _ hbw)).trans q0,(Bz (w:=w) (kk.block _ hbw)).trans q1,(Bz (w:=w) (kk.block _ hbw)).trans q2⟩)
 have HWr:=Aa hwr;unfold Xe at HWr;have hjlt:=h.box.lt;have HFn:Hid (¬F w.heap.size):=Aa (fun hf=>absurd (h.ix.sys.lt _ hf) (by omega));have ou:Hid (0≠w.heap.size/\1≠w.heap.size):=Aa (by have:=h.ix.sys.tabs.lt;omega);have HXl:Hid (x≠w.heap.size):=Aa (by have:=h.ix.box.lt;omega);have HK:=Aa hk;clear h hwr hc2 hnG hk hn hy hv2 hv5;go_enter Tryz.func47,Tryz.ntmps47
 go_wp2_with fail
 refine HN.out.mono ?_;rintro e w1⟨rfl,rfl⟩
 go_wp2_with fail
 go_region
 all_goals(go_wp2_with fail)
 all_goals(
  go_region_with(go_at_call 93;refine(HWr.out _ (by first| exact((Dr.drew w).trans (Dr.drew _)).below _| exact(((Dr.drew w).trans (Dr.drew _)).below _).alloc (Ad _) _| exact((((Dr.drew w).below _).alloc (Ad _) _).drew))).mono ?_;rintro e w5⟨rfl,F5,VV,hJ5,Pz⟩;try(have zb:CG w5 w.heap.size 189 [.int .u64 0,.int .u64 0]:=(Pz.touch.block w.heap.size (by simp) HFn.out).trans (heap_alloc_new _ _);have z0:=zb.cell 0;have z1:=zb.cell 1;have XE:=zb.frozen 0;have XF:=zb.frozen 1;simp only [Aj,Az]at z0 z1)))
 all_goals(
  first
  | (have hwb:Below w.heap.size w _:=((Dr.drew w).trans (Dr.drew _)).below w.heap.size
     have hM0:AO F F5 w w5:=(AO.of_below hwb).trans Pz;obtain⟨W6,QE⟩:∃W6,W6=w5.alloc (.cells #[.int .u64 0,.int .u64 0] 189):=⟨_,rfl⟩;rw [<-QE];have hb6:Below w5.heap.size w5 W6:=QE▸(Below.refl _ _).alloc (Ad _) _;have P6:CG W6 w5.heap.size 189 [.int .u64 0,.int .u64 0]:=QE▸heap_alloc_new _ _;have X6:=VV.below hb6;have M6:AO F F5 w W6:=hM0.below hb6;obtain⟨g,hg⟩:∃g,g=w5.heap.size:=⟨_,rfl⟩;rw [<-hg]at P6⊢;clear hwb hM0 QE hb6 hg VV hJ5 Pz)
  | (have hwb:Below w.heap.size w _:=(((Below.refl w.heap.size w).alloc (Ad _) (.cells #[.int .u64 0,.int .u64 0] 189)).drew).drew
     have hM0:AO F F5 w w5:=(AO.of_below hwb).trans Pz;obtain⟨W6,QE⟩:∃W6,W6=(w5.setCell ⟨w.heap.size,0,none⟩ (.int .u64 0)).setCell ⟨w.heap.size,1,none⟩ (.int .u64 0):=⟨_,rfl⟩;rw [<-QE];have t6:Touch (fun k=>k=w.heap.size) w5 W6:=QE▸((Touch.refl (fun k=>k=w.heap.size) w5).setCell (p:=⟨w.heap.size,0,none⟩) (.inl rfl) _).setCell (p:=⟨w.heap.size,1,none⟩) (.inl rfl) _;have P6:CG W6 w.heap.size 189 [.int .u64 0,.int .u64 0]:=by rw [QE];exact(zb.AZ 0 (.int .u64 0)).AZ 1 (.int .u64 0)
     have hnf:¬F5 w.heap.size:=fun h6=>(Pz.own _ h6).elim HFn.out (fun hs=>absurd hs (by simp))
     have X6:IX m1 W6 x d p L s2 F5:=⟨VV.sys.keep t6 (fun b hb e=>hnf (e▸hb)) ou.out.1 ou.out.2,VV.box.touch t6 HXl.out,VV.out⟩;have M6:AO F F5 w W6:=by rw [QE];exact(hM0.set (p:=⟨w.heap.size,0,none⟩) (.inr (Ad _)) _).set (p:=⟨w.heap.size,1,none⟩) (.inr (Ad _)) _
     obtain⟨g,hg⟩:∃g,g=w.heap.size:=⟨_,rfl⟩;rw [<-hg]at P6⊢;clear hwb hM0 QE t6 hnf hg VV hJ5 Pz zb z0 z1 XE XF))
 all_goals(
  obtain⟨jF,hMJ⟩:=HH.out.move X6 M6;have p0:=P6.cell 0;have p1:=P6.cell 1;obtain⟨A6,c6,hv6,_,_⟩:=DN jF.row;have HF:=Aa (fun W'(kb:Below W6.heap.size W6 W')=>Aj3 (A:=A6) (c:=c6) (by rw [<-hv6];exact jF.below kb) hmd hpl HL.out HHk.out er iQ.out);rw [<-hv6]at HF;have HMJ:=Aa hMJ;clear X6 M6 P6 j4 j5 j6 q0 q1 q2 HWr QD HN HFn jF hMJ hv6
  go_wp2_with fail
  refine(HF.out _ (Below.refl _ _)).mono ?_;rintro e w7⟨rfl,F7,hC7,hM7⟩;have HC7:=Aa hC7;have Ya:=Aa hM7;clear hC7 hM7 HF p0 p1
  go_wp2_with fail
  go_ret2;exact⟨rfl,F7,HC7.out,HMJ.out.trans Ya.out⟩)
end
section
variable{w:World}{base jb x d p L:Nat}{s0:St}{stamp:UInt64}{vs:Value}{l:List Wr}{F:Nat->Prop}{v:Value}{items:List Kv}{ch:List UInt8->List Lk}
end
