import Derived.Test.YtjcppneoncpdbaaGreatDoorG13
import Derived.Test.YtjcppneoncpdbaaGreatDoorG19
import Derived.Test.YtjcppneoncpdbaaGreatDoorG23
import Derived.Test.YtjcppneoncpdbaaGreatDoorG24
import Derived.Test.YtjcppneoncpdbaaGreatDoorG26
import Derived.Test.YtjcppneoncpdbaaGreatDoorG29
import Derived.Test.YtjcppneoncpdbaaGreatDoorG31
set_option maxHeartbeats 32000000
set_option maxRecDepth 100000
open Nat renaming le_refl->Ad,lt_of_lt_of_le->Bg,le_of_lt->FB,le_trans->AL
open Go.Lib renaming hid->Aa
open List renaming getElem?_cons_zero->Ac,getElem?_cons_succ->Ae,map_append->DR,mem_singleton->BM,map_cons->Bo,map_nil->Em
namespace Go.Proofs.YtjcppneoncpdbaaGreatDoor
open Go.RowKit
def wV(d p x:Nat):Value:= .agg #[.pointer (some ⟨d,0,none⟩),.pointer (some ⟨p,0,none⟩),.pointer (some ⟨x,0,none⟩)]
theorem oK(sh:Sh):ED (st0 sh)=some ([],[]):=by
 unfold ED;rw [if_pos (show(st0 sh).ws 9=0 from Gt sh 9 (by decide))]
theorem qQ{w:World}{L:Nat}{sh:Sh}(hL0:0<L)(hL:L<=1024)(hs:shapeOf L=some sh)(hT:Tabs w):Calls Tryz.prog 10 #[.int .i64 (L:Int)] w fun e w'=>∃d p x F,e= .returned (.tuple #[wV d p x,.bool true])/\
 Ix w' x d p L (st0 sh) F/\Below w.heap.size w w'/\(∀b,F b->w.heap.size<=b)/\w.heap.size<=x:=by
 obtain⟨W0,hW0⟩:∃W0,W0=w.alloc (.cells #[.pointer none,.pointer none,.pointer none] 31):=⟨_,rfl⟩;have hb0:Below w.heap.size w W0:=hW0▸(Below.refl _ _).alloc (Ad _) _;have B0:BH W0 w.heap.size 31 [.pointer none,.pointer none,.pointer none]:=hW0▸heap_alloc_new _ _;have HB0:=Aa (lV hL0 hL hs (hT.below hb0));have Hb0:=Aa hb0;have Vx:=Aa B0;have HW0:=Aa hW0;have wY:=Aa hT.lt;clear hT hs hb0 B0 hW0;go_enter Tryz.func10,Tryz.ntmps10
 go_wp2_with fail
 rw [<-HW0.out];refine HB0.out.mono ?_;rintro e w1⟨d,p,F,rfl,hs1,hb1,hF1⟩;have HO:=Aa (oJ hs1);have HB1:=Aa (Hb0.out.trans (hb1.mono Hb0.out.size));have Yr:=Aa (Vx.out.below hb1 Vx.out.lt);have HF1:Hid (∀b,F b->w.heap.size<b):=Aa (fun b hb=>by have:=hF1 b hb;have:=Vx.out.lt;omega);clear HB0 hs1 hb1 hF1
 go_wp2_with fail
 refine HO.out.mono ?_;rintro e w2⟨hb2,hp2⟩;rw [oK]at hp2;obtain⟨x,rfl,hx2,hxw⟩:=hp2;have hB2:=Yr.out.below hb2 Yr.out.lt;have HB2:=Aa (HB1.out.trans (hb2.mono HB1.out.size));have HX2:=Aa hx2;have Aly:w.heap.size<x:=Bg Yr.out.lt hxw;have f0:=hB2.frozen 0;have f1:=hB2.frozen 1;have f2:=hB2.frozen 2;have c0:=hB2.cell 0;have c1:=hB2.cell 1;have c2:=hB2.cell 2;simp only [Ac,Ae]at c0 c1 c2;have Alz:=Aa hB2;clear HO hb2 hx2 hxw hB2
 go_wp2_with fail
 have K:=((Alz.out.AV 0 (.pointer (some ⟨d,0,none⟩))).AV 1 (.pointer (some ⟨p,0,none⟩))).AV 2 (.pointer (some ⟨x,0,none⟩));have q0:=K.cell 0;have q1:=K.cell 1;have q2:=K.cell 2;simp only [List.set_cons_zero,List.set_cons_succ,Ac,Ae]at q0 q1 q2;have t3:Touch (fun k=>k=w.heap.size) w2 (((w2.setCell ⟨w.heap.size,0,none⟩ (.pointer (some ⟨d,0,none⟩))).setCell ⟨w.heap.size,1,none⟩ (.pointer (some ⟨p,0,none⟩))).setCell ⟨w.heap.size,2,none⟩ (.pointer (some ⟨x,0,none⟩))):=
  (((Touch.refl (fun k=>k=w.heap.size) w2).setCell (p:=⟨w.heap.size,0,none⟩) (.inl rfl) _).setCell (p:=⟨w.heap.size,1,none⟩) (.inl rfl) _).setCell (p:=⟨w.heap.size,2,none⟩) (.inl rfl) _
 refine bodyPost_ret (v:= .tuple #[wV d p x,.bool true]) (by simp [results,Tryz.results10,go_sem,q0,q1,q2,wV]) rfl ?_;refine⟨d,p,x,F,rfl,⟨HX2.out.sys.keep t3 (fun b hb e=>by have:=HF1.out b hb;omega) (by have:=wY.out;omega) (by have:=wY.out;omega),HX2.out.box.touch t3 (by show x≠_;omega),HX2.out.out⟩,?_,fun b hb=>FB (HF1.out b hb),FB Aly⟩;exact((HB2.out.setCell (p:=⟨w.heap.size,0,none⟩) (Ad _) _).setCell (p:=⟨w.heap.size,1,none⟩) (Ad _) _).setCell (p:=⟨w.heap.size,2,none⟩) (Ad _) _
theorem U2{len:Nat->Nat}{w:World}{x d p L:Nat}{s:St}{F:Nat->Prop}(h:GU len w d p L s F):Calls Tryz.prog 21 #[wV d p x] w fun e w'=>e= .returned (.int .u64 ((s.ws 8).toNat:Int))/\Below w.heap.size w w':=by
 obtain⟨W0,hW0⟩:∃W0,W0=w.alloc (.cells #[.pointer (some ⟨d,0,none⟩),.pointer (some ⟨p,0,none⟩),.pointer (some ⟨x,0,none⟩)] 31):=⟨_,rfl⟩;have hb0:Below w.heap.size w W0:=hW0▸(Below.refl _ _).alloc (Ad _) _;have B0:BH W0 w.heap.size 31 [.pointer (some ⟨d,0,none⟩),.pointer (some ⟨p,0,none⟩),.pointer (some ⟨x,0,none⟩)]:=hW0▸heap_alloc_new _ _;have c0:=B0.cell 0;simp only [Ac]at c0;have hL2:=h.pos.2.2.1.fits;have hL3:=h.pos.2.2.1.NR;have HL:=Aa ((h.below hb0).load 8 (by omega));rw [show((8*8:Nat):Int)=64 from rfl]at HL;have HB0:=Aa hb0;have HW0:=Aa hW0;clear h hb0 hW0 B0 hL2 hL3;unfold wV;go_enter Tryz.func21,Tryz.ntmps21
 go_wp2_with fail
 rw [<-HW0.out]
 go_wp2_with fail
 refine HL.out.mono ?_;rintro e w1⟨rfl,rfl⟩
 go_wp2_with fail
 go_ret;exact⟨rfl,HB0.out⟩
structure Y6 where
 A:Option Addr
 c:Nat
 l:List Lk
def lkV(y:Y6):Value:= .slice y.A y.l.length y.c
def Nk(m:List (ByteArray×Y6)):List (ByteArray×Value):=m.map fun q=>(q.1,lkV q.2)
theorem Ade(m:List (ByteArray×Y6))(q:ByteArray×Y6):Nk (m++[q])=Nk m++[(q.1,lkV q.2)]:=by simp [Nk]
structure Oj(w:World)(mb base:Nat)(m:List (ByteArray×Y6)):Prop where
 map:Oi w mb (Nk m)
 rows:∀q∈m,LkR w q.2.A q.2.l/\q.2.l.length<=q.2.c/\∀a,q.2.A=some a->base<=a.block/\a.block<w.heap.size/\a.block≠mb
theorem Oj.below{w w':World}{mb base:Nat}{m:List (ByteArray×Y6)}(h:Oj w mb base m)(k:Below w.heap.size w w'):Oj w' mb base m:=
 ⟨h.map.below k,fun q hq=>⟨(h.rows q hq).1.below k,(h.rows q hq).2.1,fun a ha=>⟨((h.rows q hq).2.2 a ha).1,Bg ((h.rows q hq).2.2 a ha).2.1 k.size,((h.rows q hq).2.2 a ha).2.2⟩⟩⟩
theorem qR{w:World}{x d p L:Nat}{s:St}{F:Nat->Prop}(h:Ix w x d p L s F){its:List It}(hits:vC s=some its)(lk:It->List Lk)(hlk:∀it∈its,QG s it.v=some (lk it))(hkeys:its.Pairwise (fun a b=>a.k≠b.k)):
 Calls Tryz.prog 20 #[wV d p x] w fun e w'=>∃mb m,e= .returned (.tuple #[.map (some mb),.bool true])/\Oj w' mb w.heap.size m/\w.heap.size<=mb/\m.map (fun q=>(q.1,q.2.l))=its.map (fun it=>(it.k,lk it))/\Below w.heap.size w w':=by
 obtain⟨W0,hW0⟩:∃W0,W0=w.alloc (.cells #[.pointer (some ⟨d,0,none⟩),.pointer (some ⟨p,0,none⟩),.pointer (some ⟨x,0,none⟩)] 31):=⟨_,rfl⟩;have hb0:Below w.heap.size w W0:=hW0▸(Below.refl _ _).alloc (Ad _) _;have B0:BH W0 w.heap.size 31 [.pointer (some ⟨d,0,none⟩),.pointer (some ⟨p,0,none⟩),.pointer (some ⟨x,0,none⟩)]:=hW0▸heap_alloc_new _ _;have c2:=B0.cell 2;simp only [Ac,Ae]at c2;have pY:=zZ (h.below hb0);rw [hits]at pY;have pY:=Aa pY;have HX0:=Aa (h.below hb0);have HB0:=Aa hb0;have HW0:=Aa hW0;have HC:Hid (∀W',Touch (fun b=>W0.heap.size<=b) W0 W'->W'.cell? ⟨w.heap.size,0,none⟩=some (.pointer (some ⟨d,0,none⟩))/\W'.cell? ⟨w.heap.size,1,none⟩=some (.pointer (some ⟨p,0,none⟩))):=Aa (fun W' k=>⟨(B0.touch k (by have:=B0.lt;omega)).cell 0,(B0.touch k (by have:=B0.lt;omega)).cell 1⟩);have hFl:=h.sys.lt;have htl:=h.sys.tabs.lt;have hsz0:W0.heap.size=w.heap.size+1:=by rw [hW0];simp
 have HL:=Aa (fun W'(k:Touch (fun b=>W0.heap.size<=b) W0 W')(first:UInt64)=>uB (HX0.out.sys.keep k (fun b hb hn=>by have:=hFl b hb;omega) (by omega) (by omega)) first);have HLk:=Aa hlk;have Ajp:=Aa hkeys;have mm:=fun W=>run_makeMap (P:=Tryz.prog) 55 W
 clear h hb0 hW0 B0 hits hlk hkeys hFl htl;unfold wV;go_enter Tryz.func20,Tryz.ntmps20
 go_wp2_with fail
 rw [<-HW0.out]
 go_wp2_with fail
 refine pY.out.mono ?_;rintro e w1⟨hb1,A,c,rfl,hc,hr,hlen,hA⟩;obtain⟨w2,hw2⟩:∃w2,w2=w1.alloc (.map #[] 0):=⟨_,rfl⟩;have hb2:Below w1.heap.size w1 w2:=hw2▸(Below.refl _ _).alloc (Ad _) _;have hm2:Oi w2 w1.heap.size []:=hw2▸heap_alloc_new _ _;have HB2:=Aa (hb1.trans (hb2.mono hb1.size));have HR1:=Aa hr;have Y7:=Aa hb2;have TN:Hid (Oj w2 w1.heap.size w.heap.size []):=Aa ⟨hm2,fun q hq=>nomatch hq⟩;have HW2:=Aa hw2;have Hmb:Hid (w.heap.size<=w1.heap.size):=Aa (AL HB0.out.size hb1.size);obtain⟨mb,hmb⟩:∃mb,mb=w1.heap.size:=⟨_,rfl⟩;have Al0:Hid (W0.heap.size<=mb):=Aa (hmb▸hb1.size);have Al1:Hid (w1.heap.size<=mb):=Aa (Nat.le_of_eq hmb.symm);rw [<-hmb]at TN Hmb;clear pY hb1 hr hb2 hm2 hw2
 go_wp2_with fail
 rw [<-HW2.out]
 try rw [<-hmb]
 clear hmb
 go_wp2_with fail
 go_loopw [22](fun i wr=>∃(k:Nat)(m:List (ByteArray×Y6)),k<=its.length/\i= .int .i64 (k:Nat)/\Oj wr mb w.heap.size m/\m.map (fun q=>(q.1,q.2.l))=(its.take k).map (fun it=>(it.k,lk it))/\Touch (fun b=>b=mb) w2 wr)(fun i _=>its.length- (intOf i).toNat)
 case atStart=>exact⟨0,[],Nat.zero_le _,rfl,TN.out,rfl,Touch.refl _ _⟩
 case round=>
  obtain⟨k,m,hk,rfl,hm,hmm,ht⟩:=hrel;have HM:=Aa hm;have HMm:=Aa hmm;have HT:=Aa ht;have HT0:Hid (Touch (fun b=>W0.heap.size<=b) W0 wr):=Aa ((Touch.of_below HB2.out).trans (ht.mono (fun b hb=>by subst hb;exact Al0.out)) (fun _ e=> .inl e));clear hm hmm ht TN;by_cases hlt:k<its.length
  ·obtain⟨b,off,rfl,hbw,q1,q2⟩:=HR1.out.at k hlt;have hbn:b≠mb:=by have:=Al1.out;omega
   have hq:∀i,wr.cell? ⟨b,i,none⟩=w1.cell? ⟨b,i,none⟩:=fun i=>World.cell?_of_block (w:=w1) ((HT.out.block b (Bg hbw Y7.out.size) hbn).trans (Y7.out.block b hbw))
   rw [<-hq]at q1 q2;have hx1:(k:Int)<(its.length:Int):=by omega
   have hx2:decide ((k:Int)<(its.length:Int))=true:=decide_eq_true hx1;have hx5:decide (k<its.length)=true:=decide_eq_true hlt;have hwk:IntKind.i64.wrap ((k:Int)+1)=(k:Int)+1:=IntWalk.i64_in _ (by omega);have HNk:Hid (∀q∈Nk m,q.1≠its[k].k):=Aa (fun q hq e=>by
    obtain⟨r,hr,rfl⟩:=List.mem_map.1 hq;have h1:(r.1,r.2.l)∈(its.take k).map (fun it=>(it.k,lk it)):=HMm.out▸List.mem_map.2 ⟨r,hr,rfl⟩;obtain⟨it,h2,h3⟩:=List.mem_map.1 h1;obtain⟨j,hj,rfl⟩:=List.getElem_of_mem h2;have hjk:j<k:=by simp at hj;omega
    rw [List.getElem_take]at h3;have h4:=(List.pairwise_iff_getElem.1 Ajp.out) j k (by omega) hlt hjk;injection h3 with h3 _
    exact h4 (h3.trans e))
   have HLi:=HLk.out its[k] (List.getElem_mem hlt);have UL:Hid ((its.take (k+1)).map (fun it=>(it.k,lk it))=(its.take k).map (fun it=>(it.k,lk it))++[(its[k].k,lk its[k])]):=Aa (by rw [List.take_succ_eq_append_getElem hlt,DR];rfl);generalize lk its[k]=li at*;generalize its[k]=it at*;obtain⟨w3,hw3⟩:∃w3,w3=wr.alloc (.cells #[.string it.k,.int .u64 (it.v.toNat:Int)] 126):=⟨_,rfl⟩;have hb3:Below wr.heap.size wr w3:=hw3▸(Below.refl _ _).alloc (Ad _) _;have ht3:Touch (fun b=>W0.heap.size<=b) W0 w3:=HT0.out.trans (Touch.of_below hb3) (fun _ e=> .inl e);have B3:BH w3 wr.heap.size 126 [.string it.k,.int .u64 (it.v.toNat:Int)]:=hw3▸heap_alloc_new _ _;have hC3:=HC.out w3 ht3;have Ad6:=Aa (HL.out w3 ht3 it.v);obtain⟨d0,d1⟩:=hC3;have HB3:=Aa hb3;have wP:=Aa (HM.out.below hb3);have Yt:=Aa B3;have HW3:=Aa hw3;rw [hw3]at d0 d1;clear hw3 hb3 ht3 B3 hq
   go_wp2_with fail
   rw [<-HW3.out];refine Ad6.out.mono ?_;rintro e w4⟨hb4,iD⟩;rw [HLi]at iD;obtain⟨_,v4,rfl,Yj⟩:=iD;obtain⟨A4,c4,hv4,hc4,hr4⟩:=qo Yj;have hA4:∀a,A4=some a->w3.heap.size<=a.block/\a.block<w4.heap.size:=fun a ea=>by
    rcases Yj.2 with⟨h1,_⟩| ⟨g,cap,cur,h1,h2,h3,_⟩
    ·rw [hv4,ea]at h1;cases h1
    ·rw [hv4,ea]at h1;injection h1 with h1
     injection h1 with h1
     rw [h1];exact⟨h2,(Array.getElem?_eq_some_iff.1 h3).1⟩
   subst hv4;have hm4:=wP.out.below hb4;have B4:=Yt.out.below hb4 Yt.out.lt;have z0:=B4.cell 0;simp only [Ac]at z0;have um:=vW (P:=Tryz.prog) Tryz.underlying55 Tryz.underlying9 w4 mb (Nk m) it.k (.slice A4 li.length c4) hm4.map HNk.out;have HM4:=Aa hm4;have HB4:=Aa (HB3.out.trans (hb4.mono HB3.out.size));have HR4:=Aa hr4;have HA4:=Aa hA4;have HC4:=Aa hc4;have Al2:=hm4.map.lt;clear Ad6 hb4 Yj hr4 hA4 hm4 B4 hc4 q1 q2 d0 d1
   go_wp2_with fail
   have t5:Touch (fun b=>b=mb) w4 (D9 w4 mb (TF 0 (Nk m++[(it.k,Value.slice A4 li.length c4)])).toArray (Nk m++[(it.k,Value.slice A4 li.length c4)]).length):=Ia _ _ _ _;have hsw:w.heap.size<=wr.heap.size:=AL (AL HB0.out.size HB2.out.size) HT.out.size;have TR:Oj (D9 w4 mb (TF 0 (Nk m++[(it.k,Value.slice A4 li.length c4)])).toArray (Nk m++[(it.k,Value.slice A4 li.length c4)]).length) mb w.heap.size (m++[(it.k,⟨A4,c4,li⟩)]):=by
    refine⟨by rw [Ade];exact LJ _ _ _ _ Al2,fun q hq=> ?_⟩;have Am3:=HM.out.map.lt;rcases List.mem_append.1 hq with hq| hq
    ·obtain⟨g1,g2,g3⟩:=HM4.out.rows q hq;exact⟨Rd.touch g1 t5 (fun a ha=>(g3 a ha).2.2),g2,fun a ha=>⟨(g3 a ha).1,Bg (g3 a ha).2.1 t5.size,(g3 a ha).2.2⟩⟩
    ·rw [BM]at hq;subst hq;have hlt3:=Yt.out.lt;exact⟨Rd.touch HR4.out t5 (fun a ha=>by have:=HA4.out a ha;show a.block≠mb;omega),HC4.out,fun a ha=>by
      have h1:=HA4.out a ha;have h2:=t5.size;exact⟨by omega,by omega,by omega⟩⟩
   have hle:(Nk m++[(it.k,Value.slice A4 li.length c4)]).length=(Nk m).length+1:=by simp
   rw [hle]at TR t5;go_roundw
   case rel=>exact⟨k+1,m++[(it.k,⟨A4,c4,li⟩)],by omega,by go_num,TR,by rw [DR,HMm.out,UL.out];rfl,(HT.out.trans (Touch.of_below HB4.out) (fun _ e=> .inl e)).trans t5 (fun _ e=> .inl e)⟩
   case measure=>simp [intOf];omega
  ·have hx2:decide ((k:Int)<(its.length:Int))=false:=decide_eq_false (by omega);have hx5:decide (k<its.length)=false:=decide_eq_false hlt;have hkn:its.take k=its:=List.take_of_length_le (by omega);have HMn:Hid (m.map (fun q=>(q.1,q.2.l))=its.map (fun it=>(it.k,lk it))):=Aa (by rw [HMm.out,hkn]);have HBe:Hid (Below w.heap.size w wr):=Aa ((HB0.out.trans (HB2.out.mono HB0.out.size)).trans (HT.out.below (AL HB0.out.size HB2.out.size) (fun b hb=>by subst hb;exact Hmb.out)));clear hkn
   go_wp2_with fail
   go_ret2;exact⟨mb,m,rfl,HM.out,Hmb.out,HMn.out,HBe.out⟩
theorem Adf{m:List (ByteArray×Y6)}{k:ByteArray}{l:List Lk}(h:m.map (fun q=>(q.1,q.2.l))=[(k,l)]):∃y:Y6,m=[(k,y)]/\y.l=l:=by
 match m,h with
 | [q],h=>
   simp only [Bo,Em,List.cons.injEq,and_true,Prod.mk.injEq]at h;exact⟨q.2,by rw [<-h.1],h.2⟩
def Aah:List Wr:=[bT,Ajc]
theorem Af5:U1 0 1 Aah=true:=by decide+kernel
theorem Adg:U1 1 1 []=false:=by decide+kernel
theorem Adh{w:World}(hT:Tabs w):Calls Tryz.prog 8 #[] w fun e w'=>e= .returned (.bool true)/\Below w.heap.size w w':=by
 have HBg:=qQ (L:=100) (by decide) (by decide) qO hT;rw [show((100:Nat):Int)=100 from rfl]at HBg;have HBg:=Aa HBg;have wY:=Aa hT.lt;clear hT;go_enter Tryz.func8,Tryz.ntmps8
 go_wp2_with fail
 refine HBg.out.mono ?_;rintro e w1⟨d,p,x,F,rfl,hx,hb1,hF,hxw⟩;unfold wV;obtain⟨W2,hW2⟩:∃W2,W2=w1.alloc (.cells #[.pointer (some ⟨d,0,none⟩),.pointer (some ⟨p,0,none⟩),.pointer (some ⟨x,0,none⟩)] 31):=⟨_,rfl⟩;obtain⟨W3,hW3⟩:∃W3,W3=W2.alloc (.cells #[.string JV,.string Jg,.bool false,.string vJ,.string ⟨#[]⟩,.bool true] 87):=⟨_,rfl⟩;have hb2:Below w1.heap.size w1 W2:=hW2▸(Below.refl _ _).alloc (Ad _) _;have hb3:Below W2.heap.size W2 W3:=hW3▸(Below.refl _ _).alloc (Ad _) _;have B2:BH W2 w1.heap.size 31 [.pointer (some ⟨d,0,none⟩),.pointer (some ⟨p,0,none⟩),.pointer (some ⟨x,0,none⟩)]:=hW2▸heap_alloc_new _ _;have S3:BH W3 W2.heap.size 87 [.string JV,.string Jg,.bool false,.string vJ,.string ⟨#[]⟩,.bool true]:=hW3▸heap_alloc_new _ _;have hset:Hf W3 (fun _=>False) (.slice (some ⟨W2.heap.size,0,none⟩) 2 2) Aah:=⟨some ⟨W2.heap.size,0,none⟩,2,rfl,Ad _,BH.rd S3,fun _ _ _ h=>h⟩;have RI:Below w1.heap.size w1 W3:=hb2.trans (hb3.mono hb2.size);have hx3:=hx.below RI;have hsz2:W2.heap.size=w1.heap.size+1:=by rw [hW2];simp
 have hFl:∀b,F b->b<w1.heap.size:=hx.sys.lt;have htl:=hx.sys.tabs.lt;have hxl:=hx.box.lt;rw [hsz2]at hset;have hNw:=OQ hx3.sys hset (by decide) (by decide) 1 (x:=x);have h80:(st0 GM).ws 8=0:=Gt GM 8 (by decide);rw [h80]at hNw;rw [show((1:UInt64).toNat:Int)=1 from rfl]at hNw;have HNw:=Aa hNw;have HX3:=Aa hx3;have HB3:=Aa (hb1.trans (RI.mono hb1.size));have Yt:=Aa (B2.below hb3 B2.lt);have HW2:=Aa hW2;have HW3:=Aa hW3;have HF:Hid (∀b,F b->w.heap.size<=b/\b<w1.heap.size):=Aa (fun b h=>⟨hF b h,hFl b h⟩);have y0:=B2.cell 0;have y1:=B2.cell 1;have y2:=B2.cell 2;simp only [Ac,Ae]at y0 y1 y2;rw [hW2]at y0 y1 y2;have Am4:=hb1.size;clear HBg hx hb1 hF hW2 hW3 hb2 hb3 B2 S3 hset RI hx3 hNw hFl h80
 go_wp2_with fail
 rw [<-HW2.out];rw [show W2.alloc (.cells #[.string {data:= #[97]},.string {data:= #[120]},.bool false,.string {data:= #[98]},.string {data:= #[]},.bool true] 87)=W3 from HW3.out.symm];refine HNw.out.mono ?_;rintro e w4⟨hb4,hy4,_⟩;obtain⟨jb,vs,rfl,hjb,hJ,hS⟩:=hy4 Af5;have Am5:=Yt.out.lt;have hC4:Gv w4 W3.heap.size jb x d p 100 (st0 GM) 1 vs Aah [] false 0 F (.slice none 0 0):=⟨HX3.out.below hb4,hJ,World.ownsRow_nil _ _ _ _,hS _ (fun b h1 h2 h=>by
  rcases h with h| h| h
  ·have:=(HF.out b h).2;omega
  ·omega
  ·cases h),fun h=>by have:=(HF.out jb h).2;omega,hjb,by omega,by omega,(fun h=>nomatch h),(fun b h=>nomatch h)⟩
 obtain⟨vA,vc,hvs⟩:=hC4.set.slice;have hvs':vs= .slice vA 2 vc:=hvs;subst hvs';have HB4:=Aa (HB3.out.trans (hb4.mono HB3.out.size));have lS:=Aa (Yt.out.below hb4 Yt.out.lt);have HG4:Hid (∀b,JG F jb (.slice none 0 0) b->w.heap.size<=b/\b≠w1.heap.size):=Aa (fun b h=>by
  rcases h with h| h| h
  ·have:=HF.out b h;omega
  ·omega
  ·cases h)
 have HLf:=Adb hC4.box (by decide) (by decide) (jb:=jb);rw [show((2-0+1:Nat):Int)=3 from rfl]at HLf;have HLf:=Aa HLf;have HC4:=Aa hC4;clear HNw hb4 hy4 hJ hS hC4 hvs y0 y1 y2
 go_wp2_with fail
 refine HLf.out.mono ?_;rintro e w5⟨rfl,hb5⟩;have hC5:=HC4.out.below hb5;have Ajq:=Aa (X9 hC5 (by decide) (by decide) (pv:=0) (pl:=QJ GM Jg) (s2:=Po GM JV Jg) (fun W' k=>(iW (hC5.ix.below k) ⟨hC5.box.below k hC5.box.lt,hC5.fj⟩ bT (by decide) (by decide) (qg GM JV (by decide)) rfl (yz jv) (one_add jv) (qf jv)).mono (fun e w'' hh=>⟨hh.1,hh.2⟩)));have MF:=Aa (HB4.out.trans (hb5.mono HB4.out.size));have Ajr:=Aa (lS.out.below hb5 lS.out.lt);clear HLf hb5 hC5 HC4
 go_wp2_with fail
 refine Ajq.out.mono ?_;rintro e w6⟨rfl,F6,v6,XZ,RN⟩;have Qs:=Aa (MF.out.trans (RN.touch.below MF.out.size (fun b h=>(HG4.out b h).1)));have Ajs:=Aa (Ajr.out.touch RN.touch (fun h=>(HG4.out _ h).2 rfl));have HG6:Hid (∀b,JG F6 jb v6 b->w.heap.size<=b/\b≠w1.heap.size):=Aa (fun b h=>(RN.own b h).elim (HG4.out b) (fun h2=>by have:=Ajr.out.lt;have:=MF.out.size;omega));have jE:=Aa (X9 XZ (by decide) (by decide) (pv:=0) (pl:=0) (s2:=Po GM JV Jg) (fun W' k=>(QN (XZ.ix.below k) ⟨XZ.box.below k XZ.box.lt,XZ.fj⟩ Ajc (by decide) (by decide) Afz rfl).mono (fun e w'' hh=>⟨hh.1,hh.2⟩)));clear Ajq XZ RN
 go_wp2_with fail
 refine jE.out.mono ?_;rintro e w7⟨rfl,F7,v7,hC7,Un⟩;have HB7:=Aa (Qs.out.trans (Un.touch.below Qs.out.size (fun b h=>(HG6.out b h).1)));have Aai:=Aa (Ajs.out.touch Un.touch (fun h=>(HG6.out _ h).2 rfl));have HG7:Hid (∀b,JG F7 jb v7 b->w.heap.size<=b/\b≠w1.heap.size):=Aa (fun b h=>(Un.own b h).elim (HG6.out b) (fun h2=>by have:=Ajs.out.lt;have:=Qs.out.size;omega));have h80:(Po GM JV Jg).ws 8=0:=by obtain⟨_,_,_,h⟩:=XK;exact h
 have Pv:=U2 hC7.ix.sys (x:=x);rw [h80,show((0:UInt64).toNat:Int)=0 from rfl]at Pv;have Pv:=Aa Pv;have HC7:=Aa hC7;have y0:=Aai.out.cell 0;have y1:=Aai.out.cell 1;have y2:=Aai.out.cell 2;simp only [Ac,Ae]at y0 y1 y2;unfold wV at Pv;clear jE hC7 Un h80
 go_wp2_with fail
 refine Pv.out.mono ?_;rintro e w8⟨rfl,hb8⟩;have hC8:=HC7.out.below hb8;have Ajt:=Aa (XA hC8 rfl);have JM:=Aa (HB7.out.trans (hb8.mono HB7.out.size));have Al3:=Aa (Aai.out.below hb8 Aai.out.lt);clear Pv hb8 hC8 HC7 y0 y1 y2
 go_wp2_with fail
 refine Ajt.out.mono ?_;rintro e w9⟨rfl,F9,hx9,⟨A9,n9,c9,B9,d9,hJ9⟩,hM9⟩;obtain⟨o,hal,pX⟩:=Ajd;obtain⟨s3,hs3⟩:∃s3,s3=({Po GM JV Jg with ws:=FH (Po GM JV Jg).ws 8 1}:St):=⟨_,rfl⟩;rw [<-hs3]at hx9 hal pX;have Vw:=Aa (JM.out.trans (hM9.touch.below JM.out.size (fun b h=>(HG7.out b h).1)));have Aaj:=Aa (Al3.out.touch hM9.touch (fun h=>(HG7.out _ h).2 rfl));have XX:=Aa (qR hx9 hal (fun _=>[⟨o,⟨1,0,false,Jg⟩⟩]) (fun it hit=>by rw [BM]at hit;rw [hit];exact pX) (List.pairwise_singleton _ _));have h81:s3.ws 8=1:=by rw [hs3];show FH (Po GM JV Jg).ws 8 1 8=1;unfold FH;rw [if_pos rfl]
 have HX9:=Aa hx9;have HJ9:=Aa hJ9.box;have H81:=Aa h81;have y0:=Aaj.out.cell 0;have y1:=Aaj.out.cell 1;have y2:=Aaj.out.cell 2;simp only [Ac,Ae]at y0 y1 y2;unfold wV at XX;clear Ajt hx9 hJ9 hM9 hal pX h81 hs3
 go_wp2_with fail
 refine XX.out.mono ?_;rintro e w10⟨mb,m,rfl,hm,hmb,hmm,MI⟩;have Ti:=Aa (Vw.out.trans (MI.mono Vw.out.size));have jF:=Aa (Aaj.out.below MI Aaj.out.lt);have Af6:=HX9.out.below MI;have hNw:=OQ Af6.sys (Hf.nil (w:=w10) (G:=fun _=>False)) (by decide) (fun _ h=>(nomatch h)) 1 (x:=x);rw [H81.out,show((1:UInt64).toNat:Int)=1 from rfl]at hNw;have HNw:=Aa hNw;have HM:=Aa hm;have HMm:=Aa hmm;have Al4:=Aa Af6;have Af7:=Aa (HJ9.out.below MI HJ9.out.lt);replace y0:=jF.out.cell 0;replace y1:=jF.out.cell 1;replace y2:=jF.out.cell 2;simp only [Ac,Ae]at y0 y1 y2;clear XX hm hmm MI Af6 hNw
 go_wp2_with fail
 refine HNw.out.mono ?_;rintro e dG⟨V3,_,Af8⟩;have Af8:=Af8 Adg;subst Af8;have Y8:=Aa (Ti.out.trans (V3.mono Ti.out.size));have Aak:=Aa (jF.out.below V3 jF.out.lt);have Aju:=Aa (HM.out.below V3);have Af9:=Aa (Af7.out.below V3 Af7.out.lt);have Pv:=U2 ((Al4.out.below V3).sys) (x:=x);rw [H81.out,show((1:UInt64).toNat:Int)=1 from rfl]at Pv;unfold wV at Pv;have Pv:=Aa Pv;replace y0:=Aak.out.cell 0;replace y1:=Aak.out.cell 1;replace y2:=Aak.out.cell 2;simp only [Ac,Ae]at y0 y1 y2;clear HNw V3
 go_wp2_with fail
 refine Pv.out.mono ?_;rintro e w12⟨rfl,Fg⟩;have Y7:=Aa (Y8.out.trans (Fg.mono Y8.out.size));have Aga:=Aju.out.below Fg;have Ajv:=Af9.out.below Fg Af9.out.lt;obtain⟨y,rfl,hyl⟩:=Adf HMm.out;have hrow:=(Aga.rows _ (List.mem_singleton.2 rfl)).1;simp only [hyl]at hrow;obtain⟨rb,ro,hA,hrb,r0,_,_,_,r4⟩:=hrow.at 0 (by simp);have hmap:w12.heap[mb]? =some (.map #[{key:= .string ⟨#[97]⟩,val:= .slice (some ⟨rb,ro,none⟩) 1 y.c,born:=0}] 1):=by
  have:=Aga.map;unfold Oi Nk lkV at this;simp only [Bo,Em,hyl,hA]at this;exact this
 have hlk:=fun W(hW:W.heap[mb]? =w12.heap[mb]?)=>XN (P:=Tryz.prog) Tryz.underlying55 Tryz.underlying9 W mb [] [] ⟨#[97]⟩ (.slice (some ⟨rb,ro,none⟩) 1 y.c) (by show W.heap[mb]? =_;rw [hW,hmap];rfl) (fun _ h=>(nomatch h))
 have hlk0:=hlk w12 rfl;have hln:=run_len_map (P:=Tryz.prog) (w:=w12) 55 3 mb _ 1 (by kernel_rfl) hmap;have Y1:=Aa (Aad Ajv);simp only [Nat.zero_mul,Nat.add_zero,List.getElem_cons_zero]at r4;replace r4:w12.cell? ⟨rb,ro+4,none⟩=some (.string ⟨#[120]⟩):=r4;have Ame:=Y7;clear Fg Aga Ajv hrow hyl hlk HMm Aju HM HJ9 Af7 Af9
 go_wp2_with fail
 refine Y1.out.mono ?_;rintro e w13⟨rfl,rfl⟩
 go_wp2_with fail
 go_ret;exact⟨rfl,Y7.out⟩
end Go.Proofs.YtjcppneoncpdbaaGreatDoor
