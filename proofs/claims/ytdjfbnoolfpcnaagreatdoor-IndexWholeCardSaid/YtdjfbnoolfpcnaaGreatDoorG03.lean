import Derived.Laws.CopyOwn
import Derived.Test.YtdjfbnoolfpcnaaGreatDoorG01
import Derived.Test.YtdjfbnoolfpcnaaGreatDoorG02
namespace Go.Proofs.YtdjfbnoolfpcnaaGreatDoor
open Go.RowKit
def Blk(w:World)(g:Nat)(e:TypeId)(xs:List Value):Prop:=w.heap[g]? =some (.cells xs.toArray e (0,0))
theorem Blk.lt{w:World}{g:Nat}{e:TypeId}{xs:List Value}(h:Blk w g e xs):g<w.heap.size:=(Array.getElem?_eq_some_iff.1 h).1
theorem Blk.cell{w:World}{g:Nat}{e:TypeId}{xs:List Value}(h:Blk w g e xs)(i:Nat):w.cell? ⟨g,i,none⟩=xs[i]? :=by
 rw [cell_of_row w g i _ e (0,0) h];simp
theorem Blk.has{w:World}{g:Nat}{e:TypeId}{xs:List Value}(h:Blk w g e xs){i:Nat}(hi:i<xs.length):w.cell? ⟨g,i,none⟩=some xs[i]:=by
 rw [h.cell,List.getElem?_eq_getElem hi]
theorem Blk.frozen{w:World}{g:Nat}{e:TypeId}{xs:List Value}(h:Blk w g e xs)(i:Nat):w.frozen? ⟨g,i,none⟩=false:=by
 unfold Blk at h;simp [World.frozen?,h]
theorem Blk.set_{w:World}{g:Nat}{e:TypeId}{xs:List Value}(h:Blk w g e xs)(i:Nat)(u:Value):Blk (w.setCell ⟨g,i,none⟩ u) g e (xs.set i u):=by
 unfold Blk at h⊢;simp [World.setCell,Array.getElem?_modify,h]
theorem Blk.drew{w:World}{g:Nat}{e:TypeId}{xs:List Value}(h:Blk w g e xs):Blk w.drew g e xs:=h
theorem Blk.below{w w':World}{g B:Nat}{e:TypeId}{xs:List Value}(h:Blk w g e xs)(hb:Below B w w')(hg:g<B):Blk w' g e xs:=(hb.block g hg).trans h
theorem Blk.rd{w:World}{g:Nat}{e:TypeId}{xs:List Value}(h:Blk w g e xs):Rd w (some ⟨g,0,none⟩) xs.length xs:=
 ⟨rfl,fun _=>⟨g,0,rfl,h.lt,fun j _=>by rw [Nat.zero_add,h.cell]⟩⟩
theorem Blk.own{w:World}{g B:Nat}{e:TypeId}{xs:List Value}(h:Blk w g e xs)(hB:B≤g)(hm:xs.length≤maxLen):w.ownsRow B e 1 (.slice (some ⟨g,0,none⟩) xs.length xs.length) xs.length xs:=
 ⟨by simp,.inr ⟨g,xs.length,xs.toArray,rfl,hB,h,Nat.le_refl _,hm,by simp,by simp⟩⟩
theorem blk_of_own{w:World}{B g n:Nat}{e:TypeId}{xs:List Value}(h:w.ownsRow B e 1 (.slice (some ⟨g,0,none⟩) n n) n xs):Blk w g e xs:=by
 rcases h.2 with⟨h',_⟩| ⟨g',cap,cur,hv,_,hg,_,_,hcs,htake⟩
 ·cases h'
 ·simp only [Value.slice.injEq,Option.some.injEq,Addr.mk.injEq,and_true,true_and]at hv;obtain⟨rfl,rfl⟩:=hv;unfold Blk;rw [hg];congr 2;rw [←htake,List.take_of_length_le (by simp [hcs])]
theorem box_keep{W W':World}{g:Nat}{a b c d:Value}(e0:W.cell? ⟨g,0,none⟩=some a)(e1:W.cell? ⟨g,1,none⟩=some b)(e2:W.cell? ⟨g,2,none⟩=some c)(e3:W.cell? ⟨g,3,none⟩=some d)
 (hg:g<W.heap.size)(hb:Below W.heap.size W W'):
 W'.cell? ⟨g,0,none⟩=some a∧W'.cell? ⟨g,1,none⟩=some b∧W'.cell? ⟨g,2,none⟩=some c∧W'.cell? ⟨g,3,none⟩=some d∧g<W'.heap.size:=
 ⟨(hb.cell (p:=⟨g,0,none⟩) hg).trans e0,(hb.cell (p:=⟨g,1,none⟩) hg).trans e1,(hb.cell (p:=⟨g,2,none⟩) hg).trans e2,(hb.cell (p:=⟨g,3,none⟩) hg).trans e3,Nat.lt_of_lt_of_le hg hb.size⟩
theorem box_keepB{W W':World}{g B:Nat}{a b c d:Value}(e0:W.cell? ⟨g,0,none⟩=some a)(e1:W.cell? ⟨g,1,none⟩=some b)(e2:W.cell? ⟨g,2,none⟩=some c)(e3:W.cell? ⟨g,3,none⟩=some d)
 (hB:g<B)(hb:Below B W W'):
 W'.cell? ⟨g,0,none⟩=some a∧W'.cell? ⟨g,1,none⟩=some b∧W'.cell? ⟨g,2,none⟩=some c∧W'.cell? ⟨g,3,none⟩=some d∧True:=
 ⟨(hb.cell (p:=⟨g,0,none⟩) hB).trans e0,(hb.cell (p:=⟨g,1,none⟩) hB).trans e1,(hb.cell (p:=⟨g,2,none⟩) hB).trans e2,(hb.cell (p:=⟨g,3,none⟩) hB).trans e3,trivial⟩
theorem box_set{W:World}{g g':Nat}{a b c d:Value}(e0:W.cell? ⟨g,0,none⟩=some a)(e1:W.cell? ⟨g,1,none⟩=some b)(e2:W.cell? ⟨g,2,none⟩=some c)(e3:W.cell? ⟨g,3,none⟩=some d)
 (hg:g<W.heap.size)(hne:g≠g')(i:Nat)(u:Value):
 (W.setCell ⟨g',i,none⟩ u).cell? ⟨g,0,none⟩=some a∧(W.setCell ⟨g',i,none⟩ u).cell? ⟨g,1,none⟩=some b∧(W.setCell ⟨g',i,none⟩ u).cell? ⟨g,2,none⟩=some c∧(W.setCell ⟨g',i,none⟩ u).cell? ⟨g,3,none⟩=some d∧g<(W.setCell ⟨g',i,none⟩ u).heap.size:=by
 have key:∀j,(W.setCell ⟨g',i,none⟩ u).cell? ⟨g,j,none⟩=W.cell? ⟨g,j,none⟩:=fun j=>
  World.cell?_of_block (w:=W) (a:=⟨g,j,none⟩) (Below.heap_setCell W ⟨g',i,none⟩ u g hne)
 exact⟨(key 0).trans e0,(key 1).trans e1,(key 2).trans e2,(key 3).trans e3,by simpa [World.setCell]using hg⟩
theorem src_of_ws{w:World}{A:Option Addr}{n:Nat}{l:List UInt64}(h:Ws w A n l){dp:Option Addr}{g off:Nat}(hd:dp=some ⟨g,off,none⟩:=by rfl):
 0<(l.map wv).length→dp=some ⟨g,off,none⟩∧∃ad,A=some ad∧∀j v,(l.map wv)[j]? =some v→w.cell? (ad.add j)=some v:=by
 intro h0;obtain⟨b,o,rfl,_,hc⟩:=h.2 (by have:=h.1;omega);refine⟨hd,_,rfl,fun j v hv=> ?_⟩;rw [Addr.add_lit,hc j (by have:=(List.getElem?_eq_some_iff.1 hv).1;have:=h.1;omega),hv]
def Kept(w w':World)(row:Option Nat):Prop:=w.heap.size≤w'.heap.size∧∀k,k<w.heap.size→some k≠row→w'.heap[k]? =w.heap[k]?
theorem own_kept{w w':World}{base:Nat}{e:TypeId}{v:Value}{n:Nat}{xs:List Value}{row:Option Nat}(h:w.ownsRow base e 1 v n xs)(hk:Kept w w' row)(hne:∀g,v.ownBlock=some g→row≠some g):w'.ownsRow base e 1 v n xs:=by
 refine⟨h.1,?_⟩;rcases h.2 with h| ⟨g,cap,cur,h1,h2,h3,h4⟩
 ·exact .inl h
 ·exact .inr ⟨g,cap,cur,h1,h2,by
  rw [hk.2 g (Array.getElem?_eq_some_iff.1 h3).1 (fun e=>hne g (by rw [h1];rfl) e.symm)];exact h3,h4⟩
theorem own_apart{w:World}{b1 b2:Nat}{e1 e2:TypeId}{v1 v2:Value}{n1 n2:Nat}{xs1 xs2:List Value}(h1:w.ownsRow b1 e1 1 v1 n1 xs1)(h2:w.ownsRow b2 e2 1 v2 n2 xs2)(hne:e1≠e2):
 ∀g,v1.ownBlock=some g→v2.ownBlock≠some g:=by
 intro g hg hg2;rcases h1.2 with⟨rfl,_⟩| ⟨g1,cap1,cur1,rfl,_,hh1,_⟩
 ·simp [Value.ownBlock]at hg
 ·rcases h2.2 with⟨rfl,_⟩| ⟨g2,cap2,cur2,rfl,_,hh2,_⟩
  ·simp [Value.ownBlock]at hg2
  ·simp [Value.ownBlock]at hg hg2;subst hg hg2;rw [hh1]at hh2;injection hh2 with hh2
   injection hh2 with _ ht
   exact hne ht
theorem append_new2{P:Program}{t e:TypeId}{z:Value}{bytes:Nat}(T:RowTy P t e z bytes)(ty:TypeId){w wr:World}{base:Nat}{v:Value}{n:Nat}{xs news:List Value}
 (hown:wr.ownsRow base e 1 v n xs)(hw:w.heap=wr.heap.push (.cells news.toArray e))(hos:w.os=wr.os)(htape:w.tape=wr.tape)(hout:w.output=wr.output)
 (h1:∀u∈news,u.oneCell'=true)(hm:n+news.length≤1000000000)(hby:bytes≤64)(hbase:base≤wr.heap.size)(m c:Nat)(hmn:m=news.length):
 ∃v' w',(Builtin.append_ #[t,t] ty #[v,.slice (some ⟨wr.heap.size,0,none⟩) m c]).run P w= .ok v' w'∧w'.ownsRow base e 1 v' (n+m) (xs++news)∧Below base wr w'∧Kept wr w' v.ownBlock:=by
 subst hmn;obtain⟨i,hi,hz0,hz1,hz2⟩:=info_parts T.hi;have hb1:Below wr.heap.size wr w:=⟨hos,htape,hout,by rw [hw];simp,fun k hk=>by rw [hw,Array.getElem?_push,if_neg (by omega)]⟩;have hown':w.ownsRow base e 1 v n xs:=by
  refine⟨hown.1,?_⟩;rcases hown.2 with h| ⟨g,cap,cur,h1,h2,h3,h4⟩
  ·exact .inl h
  ·exact .inr ⟨g,cap,cur,h1,h2,by rw [hb1.block g (Array.getElem?_eq_some_iff.1 h3).1];exact h3,h4⟩
 have hcells:∀j u,news[j]? =some u→w.cell? ((⟨wr.heap.size,0,none⟩:Addr).add j)=some u:=by
  intro j u hu;rw [show(⟨wr.heap.size,0,none⟩:Addr).add j=⟨wr.heap.size,0+j,none⟩from Addr.add_lit _ _ _];rw [cell_of_row w wr.heap.size (0+j) news.toArray e (0,0) (by rw [hw,Array.getElem?_push,if_pos rfl])];simpa using hu
 have hmul:(n+news.length)*bytes≤1000000000*64:=Nat.mul_le_mul hm hby;obtain⟨v',w',hrun,h2,h3,_⟩:=run_append_own (P:=P) w base t ty e i z 1 bytes T.ht hi hz0 hz1 hz2 T.hz (by decide) v n xs hown' _ news.length c news (by simp) hcells h1
  (by unfold maxLen;omega) (by omega) (by rw [hw];simp;omega)
 refine⟨v',w',hrun,h2,(hb1.mono hbase).trans ?_,?_,?_⟩
 ·exact(Below.refl _ _).grown h3 (by rw [hw];simp;omega) (fun k hk=>(hown'.lt k hk).1)
 ·have:=h3.size;rw [hw]at this;simp at this;omega
 ·intro k hk hkr;rw [h3.block k (by rw [hw];simp;omega) hkr,hb1.block k hk]
theorem wpList_app_new2{P:Program}{ops:Array Oper}{rest:List Oper}{o:Oper}{a:Act}{w:World}{Q:Exit→Act→World→Prop}(hgd:o.guard=none)(s x:Operand)(t:TypeId)
 (ho:o.op= .call {callee:= .builtin .append,args:= #[s,x],argTypes:= #[t,t]}){e:TypeId}{z:Value}{bytes:Nat}(T:RowTy P t e z bytes)
 (wr:World)(base:Nat)(v:Value)(n:Nat)(xs news:List Value)(hs:a.eval s=v)(hown:wr.ownsRow base e 1 v n xs)(hw:w.heap=wr.heap.push (.cells news.toArray e))
 (hos:w.os=wr.os)(htape:w.tape=wr.tape)(hout:w.output=wr.output)
 (m c:Nat)(hx:a.eval x= .slice (some ⟨wr.heap.size,0,none⟩) m c)(hmn:m=news.length)
 (h1:∀u∈news,u.oneCell'=true)(hm:n+news.length≤1000000000)(hby:bytes≤64)(hbase:base≤wr.heap.size)
 (h:∀v' w',w'.ownsRow base e 1 v' (n+m) (xs++news)→Below base wr w'→Kept wr w' v.ownBlock→wpList P ops Q rest (a.put o.dst v') w'):wpList P ops Q (o::rest) a w:=by
 refine wpList_plain hgd fun K hK=> ?_
 obtain⟨v',w',hrun,h2,h3,h4⟩:=append_new2 T o.type hown hw hos htape hout h1 hm hby hbase m c hmn;unfold Oper.wp execOp;simp only [ho,resolve,invoke,builtin,Sem.run_bind,Sem.run_pure,Result.andThen_ok,List.map_toArray,List.map_cons,List.map_nil,hs,hx,hrun];exact hK _ _ (h v' w' h2 h3 h4)
theorem own_below{w w':World}{base:Nat}{e:TypeId}{v:Value}{n:Nat}{xs:List Value}(h:w.ownsRow base e 1 v n xs)(hb:Below w.heap.size w w'):w'.ownsRow base e 1 v n xs:=
 own_kept h (row:=none) ⟨hb.size,fun k hk _=>hb.block k hk⟩ (by simp)
theorem own_mono{w:World}{base base':Nat}{e:TypeId}{v:Value}{n:Nat}{xs:List Value}(h:w.ownsRow base e 1 v n xs)(hb:base'≤base):w.ownsRow base' e 1 v n xs:=by
 refine⟨h.1,?_⟩;rcases h.2 with h| ⟨g,cap,cur,h1,h2,h3⟩
 ·exact .inl h
 ·exact .inr ⟨g,cap,cur,h1,by omega,h3⟩
theorem rd_own{w:World}{base:Nat}{e:TypeId}{A:Option Addr}{c:Nat}{n:Nat}{xs:List Value}(h:w.ownsRow base e 1 (.slice A n c) n xs):n≤c∧Rd w A n xs:=by
 obtain⟨A',c',e,hc,hr⟩:=rd_of_own h;injection e with e1 e2 e3
 subst e1 e3;exact⟨hc,hr⟩
theorem own_far{w:World}{base:Nat}{e:TypeId}{v:Value}{n:Nat}{xs:List Value}(h:w.ownsRow base e 1 v n xs){g:Nat}(hg:g<base)(i:Nat)(u:Value):(w.setCell ⟨g,i,none⟩ u).ownsRow base e 1 v n xs:=
 ownsRow_setCell_below h (a:=⟨g,i,none⟩) hg u
theorem Ws.cellAt{w:World}{b off n:Nat}{l:List UInt64}(h:Ws w (some ⟨b,off,none⟩) n l){k:Nat}(hk:k<n)(hl:k<l.length):w.cell? ⟨b,off+k,none⟩=some (.int .u64 (l[k].toNat:Int)):=by
 obtain⟨b',off',e,_,hc⟩:=h.2 (by omega);injection e with e
 injection e with e1 e2 e3
 subst e1 e2;rw [hc k hk];simp [hl,wv]
theorem wv_ofNat(n:Nat)(h:n<18446744073709551616):wv (UInt64.ofNat n)= .int .u64 (n:Int):=by
 rw [wv,UInt64.toNat_ofNat_of_lt' (by simpa [UInt64.size]using h)]
theorem encW_small(x:Nd)(h:x.kids.length≤4):(encW x).map wv=splice ((((((List.replicate 8 (0:UInt64)).map wv).set 0 (.int .u64 (1+256*(x.kids.length:Int)))).set 1 (.int .u64 ((packU x.pre).toNat:Int))).set 2 (.int .u64 (x.val.toNat:Int))).set 3 (.int .u64 ((packU x.labels).toNat:Int))) 4 (x.kids.map wv):=by
 rw [encW,if_pos h,encS];have e:wv (UInt64.ofNat (1+256*x.kids.length))= .int .u64 (1+256*(x.kids.length:Int)):=by rw [wv_ofNat _ (by omega)];simp
 simp only [splice,List.map_append,List.map_cons,List.map_nil,e,List.length_map,List.map_replicate];obtain⟨r,hr⟩:∃r,r=x.kids.length:=⟨_,rfl⟩;rw [←hr]at h⊢;have:r=0∨r=1∨r=2∨r=3∨r=4:=by omega
 rcases this with rfl| rfl| rfl| rfl| rfl<;>simp [List.replicate,wv]
theorem headB_row(x:Nd)(h:x.kids.length≤1000000):(putKids (headB x) (x.labels.take 0) (x.kids.take 0)).map wv=((((List.replicate 32 (0:UInt64)).map wv).set 0 (.int .u64 (2+256*(x.kids.length:Int)))).set 1 (.int .u64 ((packU x.pre).toNat:Int))).set 2 (.int .u64 (x.val.toNat:Int)):=by
 have e:wv (UInt64.ofNat (2+256*x.kids.length))= .int .u64 (2+256*(x.kids.length:Int)):=by rw [wv_ofNat _ (by omega)];simp
 simp only [List.take_zero,putKids,headB,List.map_append,List.map_cons,List.map_nil,e];simp [List.replicate,wv]
theorem putKids_row(x:Nd)(k:Nat)(h1:k<x.labels.length)(h2:k<x.kids.length):
 (putKids (headB x) (x.labels.take (k+1)) (x.kids.take (k+1))).map wv=((putKids (headB x) (x.labels.take k) (x.kids.take k)).map wv).set (4+x.labels[k].toNat) (.int .u64 (x.kids[k].toNat:Int)):=by
 rw [putKids_take_succ _ _ _ k h1 h2,List.map_set];rfl
theorem Tryz.infoWord:(Tryz.prog.info? 23).map (fun i=>(i.zero,i.size,i.bytes))=some (some (.int .u64 0),1,8):=by kernel_rfl
def EncPost(x:Nd)(w:World)(e:Ending)(w':World):Prop:=
 Below w.heap.size w w'∧(if rightB x then∃v,e= .returned (.tuple #[v,.bool true])∧w'.ownsRow w.heap.size 23 1 v (encW x).length ((encW x).map wv)
  else e= .returned (.tuple #[.slice none 0 0,.bool false]))
set_option maxHeartbeats 1000000 in
theorem encode_node(A1 A2 A3:Option Addr)(n1 c1 n2 c2 n3 c3:Nat)(x:Nd)(w:World)(b1:n1≤1000000)(b2:n2≤1000000)(b3:n3≤1000000)(h1:Bs w A1 n1 x.pre)(h2:Bs w A2 n2 x.labels)(h3:Ws w A3 n3 x.kids):
 Calls Tryz.prog 82 #[.agg #[.slice A1 n1 c1,.int .u64 (x.val.toNat:Int),.slice A2 n2 c2,.slice A3 n3 c3]] w (EncPost x w):=by
 obtain⟨i0,hi,hz0,hz1,hz2⟩:=info_parts Tryz.infoWord;have hl1:=h1.len;have hl2:=h2.len;have hl3:=h3.len;obtain⟨W,hW,e0,e1,e2,e3,hb,hs⟩:=box4 w 72 (.slice A1 n1 c1) (.int .u64 (x.val.toNat:Int)) (.slice A2 n2 c2) (.slice A3 n3 c3);have g1:=h1.below hb;have g2:=h2.below hb;have g3:=h3.below hb;have HW:=Lib.hid hW;clear hW;have hri:=right_node A1 A2 A3 n1 c1 n2 c2 n3 c3 x W b1 b2 b3 g1 g2 g3;have HRI:=Lib.hid hri;clear hri;go_enter Tryz.func82,Tryz.ntmps82
 go_wp2_with fail
 rw [←HW.out];refine HRI.out.mono ?_;rintro e W1⟨rfl,hb1⟩;clear HRI HW;obtain⟨e1x0,e1x1,e1x2,e1x3,hs1⟩:=box_keep e0 e1 e2 e3 (by omega) hb1;clear e0 e1 e2 e3;have hb01:Below w.heap.size w W1:=hb.trans (hb1.mono hb.size);clear hb hb1 hs g1 g2 g3;cases hR:rightB x with
 | false=>
   have HR:=Lib.hid hR;clear hR
   go_wp2_with fail
   go_ret2;exact⟨hb01,by rw [HR.out];rfl⟩
 | true=>
   have HR:=Lib.hid hR;clear hR
   go_wp2_with fail
   refine(class_any _ _ _ A3 n3 c3 W1 (by omega)).mono ?_;rintro e W2⟨rfl,hb2⟩;obtain⟨e2x0,e2x1,e2x2,e2x3,hs2⟩:=box_keep e1x0 e1x1 e1x2 e1x3 hs1 hb2;clear e1x0 e1x1 e1x2 e1x3;have hb02:=hb01.trans (hb2.mono hb01.size);clear hb01 hb2 hs1;by_cases h4:n3≤4
   ·rw [if_pos h4]
    go_wp2_with fail
    refine(words_any 1 W2).mono ?_;rintro e w'⟨rfl,rfl⟩;rw [show wordsN 1=8 from rfl]
    go_wp2_with
     (at_make
      refine wpList_make_full _ rfl _ _ 70 rfl w.heap.size 23 i0 (.int .u64 0) 1 Tryz.underlying70 hi hz0 hz1 .i64 .i64 _ _ 8 rfl rfl rfl rfl (by rw [hz2];omega) (by decide) (by exact hb02.size) ?_;intro w3 hown3 hgrow3;have hb3:Below W2.heap.size W2 w3:=(Below.refl _ _).grown hgrow3 (Nat.le_refl _) (by simp);obtain⟨e3x0,e3x1,e3x2,e3x3,hs3⟩:=box_keep e2x0 e2x1 e2x2 e2x3 hs2 hb3;clear e2x0 e2x1 e2x2 e2x3;have hb03:=hb02.trans (hb3.mono hb02.size);have B3:Blk w3 W2.heap.size 23 ((List.replicate 8 (0:UInt64)).map wv):=by rw [←made_words];exact blk_of_own hown3
      have i0:=B3.has (i:=0) (by simp);have i1:=B3.has (i:=1) (by simp);have i2:=B3.has (i:=2) (by simp);have i3:=B3.has (i:=3) (by simp);have f0:=B3.frozen 0;have f1:=B3.frozen 1;have f2:=B3.frozen 2;have f3:=B3.frozen 3;have hne:w.heap.size≠W2.heap.size:=by omega
      have hb02s:=hb02.size;clear hown3 hgrow3 hb3 hb02)
    have hx:=(rightB_iff x).1 HR.out;obtain⟨x1,x2,x3,x4,_,_⟩:=hx;have hp1:=pack_any A1 n1 c1 x.pre (w3.setCell ⟨W2.heap.size,0,none⟩ (.int .u64 (1+256*(n3:Int)))) (by omega) (h1.below (hb03.setCell (p:=⟨W2.heap.size,0,none⟩) hb02s _)) x2;have hP1:=packN_le x.pre 15 x1 x2;rw [nat_pow_16_15]at hP1;have E1:Hid (((n1+16*packN x.pre:Nat):Int)=((packU x.pre).toNat:Int)):=Lib.hid (by rw [packU,hl1,UInt64.toNat_ofNat_of_lt' (by simp [UInt64.size];omega)]);rw [E1.out]at hp1;have HP1:=Lib.hid hp1;have HL2:Hid (n2≤4):=Lib.hid (by omega);clear hp1 x3 hP1;refine HP1.out.mono ?_;rintro e w'⟨rfl,rfl⟩;clear HP1
    go_wp2_with fail
    have B4:=((B3.set_ 0 (.int .u64 (1+256*(n3:Int)))).set_ 1 (.int .u64 ((packU x.pre).toNat:Int))).set_ 2 (.int .u64 (x.val.toNat:Int));have hb04:=((hb03.setCell (p:=⟨W2.heap.size,0,none⟩) hb02s (.int .u64 (1+256*(n3:Int)))).setCell (p:=⟨W2.heap.size,1,none⟩) hb02s (.int .u64 ((packU x.pre).toNat:Int))).setCell (p:=⟨W2.heap.size,2,none⟩) hb02s (.int .u64 (x.val.toNat:Int));obtain⟨e4x0,e4x1,e4x2,e4x3,hs3⟩:=box_set e3x0 e3x1 e3x2 e3x3 hs3 hne 0 (.int .u64 (1+256*(n3:Int)));clear e3x0 e3x1 e3x2 e3x3;obtain⟨e5x0,e5x1,e5x2,e5x3,hs3⟩:=box_set e4x0 e4x1 e4x2 e4x3 hs3 hne 1 (.int .u64 ((packU x.pre).toNat:Int));clear e4x0 e4x1 e4x2 e4x3;obtain⟨e6x0,e6x1,e6x2,e6x3,hs3⟩:=box_set e5x0 e5x1 e5x2 e5x3 hs3 hne 2 (.int .u64 (x.val.toNat:Int));clear e5x0 e5x1 e5x2 e5x3;clear i0 i1 i2 i3 f0 f1 f2 f3 hb03 B3;generalize(((w3.setCell ⟨W2.heap.size,0,none⟩ (.int .u64 (1+256*(n3:Int)))).setCell ⟨W2.heap.size,1,none⟩ (.int .u64 ((packU x.pre).toNat:Int))).setCell ⟨W2.heap.size,2,none⟩ (.int .u64 (x.val.toNat:Int)))=W4 at*;have hp2:=pack_any A2 n2 c2 x.labels W4 (by have:=HL2.out;omega) (h2.below hb04) x4;have hP2:=packN_le x.labels 15 (by have:=HL2.out;omega) x4;rw [nat_pow_16_15]at hP2;have E2:Hid (((n2+16*packN x.labels:Nat):Int)=((packU x.labels).toNat:Int)):=Lib.hid (by rw [packU,hl2,UInt64.toNat_ofNat_of_lt' (by have:=HL2.out;simp [UInt64.size];omega)]);rw [E2.out]at hp2;have HP2:=Lib.hid hp2;have i3:=B4.has (i:=3) (by simp);have f3:=B4.frozen 3;clear hp2 hP2;refine HP2.out.mono ?_;rintro e w'⟨rfl,rfl⟩;clear HP2;have B5:=B4.set_ 3 (.int .u64 ((packU x.labels).toNat:Int));have hb05:=hb04.setCell (p:=⟨W2.heap.size,3,none⟩) hb02s (.int .u64 ((packU x.labels).toNat:Int));have hsl:∀W,(Instr.slice 70 (.slice (some ⟨W2.heap.size,0,none⟩) 8 8) (some (.int .i64 4)) none none).run Tryz.prog W= .ok (.slice (some ⟨W2.heap.size,4,none⟩) 4 4) W:=fun W=>by
     have:=run_from Tryz.wordsTy (some ⟨W2.heap.size,0,none⟩) 8 8 .i64 4 (by decide) W;simpa [subA,Addr.add_lit]using this
    obtain⟨e7x0,e7x1,e7x2,e7x3,hs3⟩:=box_set e6x0 e6x1 e6x2 e6x3 hs3 hne 3 (.int .u64 ((packU x.labels).toNat:Int));clear e6x0 e6x1 e6x2 e6x3
    go_wp2_with fail
    clear i3 f3 hb04 B4;generalize W4.setCell ⟨W2.heap.size,3,none⟩ (.int .u64 ((packU x.labels).toNat:Int))=W5 at*;have g3:Ws W5.drew A3 n3 x.kids:=h3.below hb05.drew
    go_region_law(refine step_copy_splice rfl (.tmp 49) (.tmp 51) 70 70 rfl 23 Tryz.underlying70 (by kernel_rfl) (some ⟨W2.heap.size,4,none⟩) A3 4 4 n3 c3 (by simp [Act.eval]) (by simp [Act.eval]) W2.heap.size 4 _ 23 B5.drew (x.kids.map wv) (by rw [List.length_map,hl3];exact(Nat.min_eq_left h4).symm) (src_of_ws g3) (by simp [hl3];omega) (oneCell_wv _) w.heap.size w hb05.drew hb02s ?_;intro w6 hB6 hb6)
    all_goals
     go_wp2;go_ret2;refine⟨hb6,?_⟩;rw [if_pos HR.out];have hB:Blk w6 W2.heap.size 23 ((encW x).map wv):=by
      have h:=hB6.out;rw [encW_small x (by omega)];rw [hl3];exact h
     have hlen:((encW x).map wv).length=8:=by rw [List.length_map,encW_length,if_pos (by omega)]
     refine⟨_,rfl,?_⟩;have:=hB.own (B:=w.heap.size) hb02s (by rw [hlen];decide);rw [hlen]at this;rw [show(encW x).length=8 by simpa using hlen];exact this
   ·rw [if_neg h4]
    go_wp2_with fail
    refine(words_any 2 W2).mono ?_;rintro e w'⟨rfl,rfl⟩;rw [show wordsN 2=32 from rfl]
    go_wp2_with
     (at_make
      refine wpList_make_full _ rfl _ _ 70 rfl w.heap.size 23 i0 (.int .u64 0) 1 Tryz.underlying70 hi hz0 hz1 .i64 .i64 _ _ 32 rfl rfl rfl rfl (by rw [hz2];omega) (by decide) (by exact hb02.size) ?_;intro w3 hown3 hgrow3;have hb3:Below W2.heap.size W2 w3:=(Below.refl _ _).grown hgrow3 (Nat.le_refl _) (by simp);obtain⟨e8x0,e8x1,e8x2,e8x3,hs3⟩:=box_keep e2x0 e2x1 e2x2 e2x3 hs2 hb3;clear e2x0 e2x1 e2x2 e2x3;have hb03:=hb02.trans (hb3.mono hb02.size);have B3:Blk w3 W2.heap.size 23 ((List.replicate 32 (0:UInt64)).map wv):=by rw [←made_words];exact blk_of_own hown3
      have i0:=B3.has (i:=0) (by simp);have i1:=B3.has (i:=1) (by simp);have i2:=B3.has (i:=2) (by simp);have i3:=B3.has (i:=3) (by simp);have f0:=B3.frozen 0;have f1:=B3.frozen 1;have f2:=B3.frozen 2;have f3:=B3.frozen 3;have hne:w.heap.size≠W2.heap.size:=by omega
      have hb02s:=hb02.size;clear hown3 hgrow3 hb3 hb02)
    have hx:=(rightB_iff x).1 HR.out;obtain⟨x1,x2,x3,x4,_,_⟩:=hx;have hp1:=pack_any A1 n1 c1 x.pre (w3.setCell ⟨W2.heap.size,0,none⟩ (.int .u64 (2+256*(n3:Int)))) (by omega) (h1.below (hb03.setCell (p:=⟨W2.heap.size,0,none⟩) hb02s _)) x2;have hP1:=packN_le x.pre 15 x1 x2;rw [nat_pow_16_15]at hP1;have E1:Hid (((n1+16*packN x.pre:Nat):Int)=((packU x.pre).toNat:Int)):=Lib.hid (by rw [packU,hl1,UInt64.toNat_ofNat_of_lt' (by simp [UInt64.size];omega)]);rw [E1.out]at hp1;have HP1:=Lib.hid hp1;clear hp1 hP1;refine HP1.out.mono ?_;rintro e w'⟨rfl,rfl⟩;clear HP1
    go_wp2_with fail
    have B4:=((B3.set_ 0 (.int .u64 (2+256*(n3:Int)))).set_ 1 (.int .u64 ((packU x.pre).toNat:Int))).set_ 2 (.int .u64 (x.val.toNat:Int));have hb04:=((hb03.setCell (p:=⟨W2.heap.size,0,none⟩) hb02s (.int .u64 (2+256*(n3:Int)))).setCell (p:=⟨W2.heap.size,1,none⟩) hb02s (.int .u64 ((packU x.pre).toNat:Int))).setCell (p:=⟨W2.heap.size,2,none⟩) hb02s (.int .u64 (x.val.toNat:Int));obtain⟨e9x0,e9x1,e9x2,e9x3,hs3⟩:=box_set e8x0 e8x1 e8x2 e8x3 hs3 hne 0 (.int .u64 (2+256*(n3:Int)));clear e8x0 e8x1 e8x2 e8x3;obtain⟨e10x0,e10x1,e10x2,e10x3,hs3⟩:=box_set e9x0 e9x1 e9x2 e9x3 hs3 hne 1 (.int .u64 ((packU x.pre).toNat:Int));clear e9x0 e9x1 e9x2 e9x3;obtain⟨e11x0,e11x1,e11x2,e11x3,hs3⟩:=box_set e10x0 e10x1 e10x2 e10x3 hs3 hne 2 (.int .u64 (x.val.toNat:Int));clear e10x0 e10x1 e10x2 e10x3;clear i0 i1 i2 i3 f0 f1 f2 f3 hb03 B3;generalize(((w3.setCell ⟨W2.heap.size,0,none⟩ (.int .u64 (2+256*(n3:Int)))).setCell ⟨W2.heap.size,1,none⟩ (.int .u64 ((packU x.pre).toNat:Int))).setCell ⟨W2.heap.size,2,none⟩ (.int .u64 (x.val.toNat:Int)))=W4 at*;have hrow:Blk W4 W2.heap.size 23 ((putKids (headB x) (x.labels.take 0) (x.kids.take 0)).map wv):=by
     rw [headB_row x (by omega),hl3];exact B4
    clear B4;have hl23:n2=n3:=by omega
    have HX4:=Lib.hid x4;clear x4 x3 x2;subst hl23
    go_wp2_with fail
    go_loopw [57](fun i wr=>∃k:Nat,k≤n2∧i= .int .i64 k∧Blk wr W2.heap.size 23 ((putKids (headB x) (x.labels.take k) (x.kids.take k)).map wv)∧Below W2.heap.size W4 wr)(fun i _=>n2- (intOf i).toNat)
    case atStart=>exact⟨0,Nat.zero_le _,rfl,hrow,Below.refl _ _⟩
    case round=>
     obtain⟨k,hk,rfl,hrow,hbr⟩:=hrel;obtain⟨e12x0,e12x1,e12x2,e12x3,hs3⟩:=box_keepB e11x0 e11x1 e11x2 e11x3 hs2 hbr;clear e11x0 e11x1 e11x2 e11x3;have hb0r:Below w.heap.size w wr:=hb04.trans (hbr.mono hb02s);by_cases hlt:k<n2
     ·obtain⟨hq2,p2,off2,rfl,_,hc2⟩:=(h2.below hb0r).at hlt;obtain⟨hq3,p3,off3,rfl,_,hc3⟩:=(h3.below hb0r).at hlt;have h16:=nib_get HX4.out hq2;have hlen:((putKids (headB x) (x.labels.take k) (x.kids.take k)).map wv).length=32:=by simp [putKids_length,headB]
      have ic:=hrow.has (i:=4+x.labels[k].toNat) (by rw [hlen];omega);have fc:=hrow.frozen (4+x.labels[k].toNat);have hrow2:=hrow.set_ (4+x.labels[k].toNat) (.int .u64 (x.kids[k].toNat:Int));rw [←putKids_row x k hq2 hq3]at hrow2;have HR2:=Lib.hid hrow2;have HB2:=Lib.hid (hbr.setCell (p:=⟨W2.heap.size,4+x.labels[k].toNat,none⟩) (Nat.le_refl _) (.int .u64 (x.kids[k].toNat:Int)));clear hrow hrow2 hbr;go_wp2;go_roundw
      case rel=>exact⟨k+1,by omega,by go_num,HR2.out,HB2.out⟩
      case measure=>simp [intOf];omega
     ·have hkn:k=n2:=by omega
      subst hkn;have hfin:(putKids (headB x) (x.labels.take k) (x.kids.take k)).map wv=(encW x).map wv:=by
       rw [encW,if_neg (by omega),encB,List.take_of_length_le (by omega),List.take_of_length_le (by omega)]
      rw [hfin]at hrow;have hlen:((encW x).map wv).length=32:=by rw [List.length_map,encW_length,if_neg (by omega)]
      have HO:=Lib.hid (hrow.own (B:=w.heap.size) hb02s (by rw [hlen];decide));have HLE:=Lib.hid hlen;clear hrow hbr hfin hlen e12x0 e12x1 e12x2 e12x3;go_wp2;go_ret2;refine⟨hb0r,?_⟩;rw [if_pos HR.out];refine⟨_,rfl,?_⟩;have:=HO.out;rw [HLE.out]at this;rw [show(encW x).length=32 by simpa using HLE.out];exact this
set_option maxHeartbeats 400000 in
theorem equalW_any (A B : Option Addr) (n m c d : Nat) (a b : List UInt64) (w : World) (hn : n ≤ 4294967296) (_hm : m ≤ 4294967296) (ha : Ws w A n a) (hb : Ws w B m b) :
    Calls Tryz.prog 98 #[.slice A n c, .slice B m d] w fun e w' => e = .returned (.bool (decide (a = b))) ∧ Dr w w' := by
  have hla := ha.len
  have hlb := hb.len
  by_cases hnm : n = m
  · subst hnm
    have t1 : ((n : Int) != (n : Int)) = false := by simp
    go_enter Tryz.func98, Tryz.ntmps98
    go_wp2
    go_loopw [13] (fun i wr => ∃ k : Nat, k ≤ n ∧ i = .int .i64 k ∧ (∀ j (h1 : j < a.length) (h2 : j < b.length), j < k → a[j] = b[j]) ∧ Dr w wr) (fun i _ => n - (intOf i).toNat)
    case atStart => exact ⟨0, Nat.zero_le _, rfl, fun j _ _ h => absurd h (by omega), Dr.refl _⟩
    case round =>
      obtain ⟨k, hk, rfl, heq, q, rfl⟩ := hrel
      by_cases hlt : k < n
      · obtain ⟨hq, p, off, rfl, hp, hc⟩ := ha.at hlt
        obtain ⟨hq2, p2, off2, rfl, hp2, hc2⟩ := hb.at hlt
        by_cases he : a[k] = b[k]
        · have t2 : (((a[k].toNat : Int)) != (b[k].toNat : Int)) = false := by simp [he]
          have HE : Hid (∀ j (h1 : j < a.length) (h2 : j < b.length), j < k + 1 → a[j] = b[j]) := Lib.hid fun j h1 h2 hj => by
            by_cases e : j = k
            · subst e; exact he
            · exact heq j h1 h2 (by omega)
          clear heq he
          go_wp2
          go_quiet (fail)
          go_wp2
          go_roundw
          case rel => exact ⟨k + 1, by omega, by go_num, HE.out, by first | exact Dr.one _ _ | exact Dr.two _ _ _⟩
          case measure => simp [intOf]; omega
        · have t2 : (((a[k].toNat : Int)) != (b[k].toNat : Int)) = true := by
            rw [bne_iff_ne]; intro e; exact he (UInt64.toNat_inj.1 (by omega))
          have HD : Hid (decide (a = b) = false) := Lib.hid (by rw [decide_eq_false_iff_not]; intro e; subst e; exact he rfl)
          clear heq he
          go_wp2
          go_quiet (fail)
          go_wp2
          go_ret
          exact ⟨by rw [HD.out]; rfl, by first | exact Dr.one _ _ | exact Dr.two _ _ _⟩
      · have hkn : k = n := by omega
        subst hkn
        have HD : Hid (decide (a = b) = true) := Lib.hid (by
          rw [decide_eq_true_iff]
          apply List.ext_getElem (by omega)
          intro j h1 h2
          exact heq j h1 h2 (by omega))
        clear heq
        go_wp2
        go_ret
        exact ⟨by rw [HD.out]; rfl, Dr.one _ _⟩
  · have t1 : ((n : Int) != (m : Int)) = true := by simp; omega
    have HD : Hid (decide (a = b) = false) := Lib.hid (by rw [decide_eq_false_iff_not]; intro e; subst e; omega)
    go_enter Tryz.func98, Tryz.ntmps98
    go_wp2
    go_ret
    exact ⟨by rw [HD.out]; rfl, Dr.refl _⟩
def TwoPost(lb:List UInt8)(ks:List UInt64)(w:World)(e:Ending)(w':World):Prop:=
 Below w.heap.size w w'∧∃A1 c1 A2 c2,e= .returned (.tuple #[.slice A1 lb.length c1,.slice A2 ks.length c2])∧w'.ownsRow w.heap.size 5 1 (.slice A1 lb.length c1) lb.length (lb.map bv)∧w'.ownsRow w.heap.size 23 1 (.slice A2 ks.length c2) ks.length (ks.map wv)
theorem Ws.sub{w:World}{A:Option Addr}{n:Nat}{l:List UInt64}(h:Ws w A n l){c lo hi:Nat}(h1:lo≤hi)(h2:hi≤n)(hc:n≤c):Ws w (subA A c lo) (hi-lo) ((l.drop lo).take (hi-lo)):=by
 have:=Rd.sub h h1 h2 hc
 rwa [←List.map_drop,←List.map_take]at this
set_option maxHeartbeats 400000 in
theorem small_any(A:Option Addr)(c:Nat)(l:List UInt64)(w:World)(hc:8≤c)(h:Ws w A 8 l)(u:UInt64)(hu:l[3]? =some u):
 Calls Tryz.prog 109 #[.slice A 8 c] w (TwoPost (candS u.toNat (l.drop 4)).1 (candS u.toNat (l.drop 4)).2 w):=by
 have hlen:=h.len;obtain⟨hq,b,off,rfl,hb,hc3⟩:=h.at (show 3<8 by decide);have hu':l[3]=u:=by rw [List.getElem?_eq_getElem hq]at hu;injection hu
 rw [hu']at hc3;have hun:=unpack_any u.toNat w (by have:=u.toNat_lt;simpa [UInt64.size]using this);have HU:=Lib.hid hun;clear hun hu';go_enter Tryz.func109,Tryz.ntmps109
 go_wp2_with fail
 refine HU.out.mono ?_;rintro e w1⟨hb1,hu1⟩;clear HU hc3;have hm:=Nat.mod_lt u.toNat (show 0<16 by decide);by_cases hz:u.toNat/16/16^(u.toNat%16)=0
 ·rw [if_pos hz]at hu1;obtain⟨v1,rfl,ho1⟩:=hu1;obtain⟨A1,c1,rfl,hc1,hr1⟩:=rd_of_own ho1;by_cases h4:u.toNat%16≤4
  ·have hcand:candS u.toNat (l.drop 4)=(digits (u.toNat%16) (u.toNat/16),(l.drop 4).take (u.toNat%16)):=by rw [candS,if_pos ⟨hz,h4⟩]
   have HC:=Lib.hid hcand;have HR1:Hid (w1.ownsRow w.heap.size 5 1 (.slice A1 (u.toNat%16) c1) (u.toNat%16) ((digits (u.toNat%16) (u.toNat/16)).map bv)):=Lib.hid ho1;obtain⟨m,hmm⟩:∃m,m=u.toNat%16:=⟨_,rfl⟩;have hw1:=h.below hb1;have hsub:=Ws.sub hw1 (c:=c) (lo:=4) (hi:=4+m) (by omega) (by omega) hc;rw [←hmm]at hc1 h4⊢;have HMM:=Lib.hid hmm;have hsl:=run_sub Tryz.wordsTy (some ⟨b,off,none⟩) 8 c .i64 .i64 4 (4+m) (by omega) (by omega);rw [show 4+m-4=m by omega]at hsl hsub;have hcl:=cloneW_any (subA (some ⟨b,off,none⟩) c 4) m (c-4) _ w1 (by omega) hsub;have HCL:=Lib.hid hcl;have e4:((4:Nat):Int)=4:=rfl;have e4m:((4+m:Nat):Int)=4+(m:Int):=by omega
   simp only [e4,e4m]at hsl;have d4:decide (4<(m:Int))=false:=by simp;omega
   clear hz hcand ho1 hr1 hmm hcl hsub e4 e4m
   go_wp2_with fail
   refine HCL.out.mono ?_;rintro e w2⟨v2,rfl,ho2,hb2⟩;obtain⟨A2,c2,rfl,hc2,hr2⟩:=rd_of_own ho2;have HO2:=Lib.hid (own_mono ho2 hb1.size);clear HCL ho2 hr2 hc2
   go_wp2_with fail
   go_ret2;have hl1:((l.drop 4).take m).length=m:=by simp [hlen];omega
   refine⟨hb1.trans (hb2.mono hb1.size),?_⟩;rw [HC.out]
   dsimp only
   rw [←HMM.out,digits_length,hl1];refine⟨A1,c1,A2,c2,rfl,?_,HO2.out⟩;have:=own_below HR1.out hb2;rw [←HMM.out]at this;exact this
  ·have hcand:candS u.toNat (l.drop 4)=([],[]):=by rw [candS,if_neg (fun e=>h4 e.2)]
   have HC:=Lib.hid hcand;have d4:decide (4<((u.toNat%16:Nat):Int))=true:=by simp;omega
   generalize u.toNat%16=m at*;clear hz hcand
   go_wp2_with fail
   go_ret2;refine⟨hb1,?_⟩;rw [HC.out];exact⟨none,0,none,0,rfl,World.ownsRow_nil _ _ _ _,World.ownsRow_nil _ _ _ _⟩
 ·rw [if_neg hz]at hu1;subst hu1;have hcand:candS u.toNat (l.drop 4)=([],[]):=by rw [candS,if_neg (fun e=>hz e.1)]
  have HC:=Lib.hid hcand;clear hz hcand
  go_wp2_with fail
  go_ret2;refine⟨hb1,?_⟩;rw [HC.out];exact⟨none,0,none,0,rfl,World.ownsRow_nil _ _ _ _,World.ownsRow_nil _ _ _ _⟩
set_option maxHeartbeats 1000000 in
theorem big_any(A:Option Addr)(c:Nat)(l:List UInt64)(w:World)(hc:32≤c)(h:Ws w A 32 l):
 Calls Tryz.prog 110 #[.slice A 32 c] w (TwoPost (collB 0 ((l.drop 4).take 16)) (collK ((l.drop 4).take 16)) w):=by
 have hlen:=h.len;obtain⟨_,b,off,rfl,_,_⟩:=h.at (show 0<32 by decide);have hsl:=run_sub Tryz.wordsTy (some ⟨b,off,none⟩) 32 c .i64 .i64 4 20 (by omega) (by omega);have hsb:subA (some ⟨b,off,none⟩) c 4=some ⟨b,off+4,none⟩:=by rw [subA,if_neg (by omega)];simp [Addr.add_lit]
 rw [hsb]at hsl;have e4:((4:Nat):Int)=4:=rfl;have e20:((20:Nat):Int)=20:=rfl;simp only [e4,e20]at hsl;have ht:Ws w (some ⟨b,off+4,none⟩) 16 ((l.drop 4).take 16):=by
  have:=Ws.sub h (c:=c) (lo:=4) (hi:=20) (by omega) (by omega) hc
  rwa [hsb]at this
 clear hsb e4 e20 hlen;generalize(l.drop 4).take 16=t at*;have htl:=ht.len;go_enter Tryz.func110,Tryz.ntmps110;go_wp2
 go_loopw [4,5,11](fun v4 v5 i wr=>∃k:Nat,k≤16∧i= .int .i64 k∧wr.ownsRow w.heap.size 5 1 v4 (collB 0 (t.take k)).length ((collB 0 (t.take k)).map bv)∧wr.ownsRow w.heap.size 23 1 v5 (collK (t.take k)).length ((collK (t.take k)).map wv)∧Below w.heap.size w wr)(fun _ _ i _=>16- (intOf i).toNat)
 case atStart=>exact⟨0,Nat.zero_le _,rfl,World.ownsRow_nil _ _ _ _,World.ownsRow_nil _ _ _ _,Below.refl _ _⟩
 case round=>
  obtain⟨k,hk,rfl,ho4,ho5,hbr⟩:=hrel;have hsz:=hbr.size;by_cases hlt:k<16
  ·have htr:=ht.below hbr;obtain⟨hq,b',off',e',_,hcc⟩:=htr.at hlt;injection e' with e'
   injection e' with e1 e2 e3
   subst e1 e2;have hsn:t.take (k+1)=t.take k++[t[k]]:=List.take_succ_eq_append_getElem hq;have hcB:=collB_snoc 0 (t.take k) t[k];have hcK:=collK_snoc (t.take k) t[k];rw [←hsn,List.length_take,Nat.min_eq_left (by omega),Nat.zero_add]at hcB;rw [←hsn]at hcK;have hlK:(collK (t.take k)).length≤16:=by have:=collK_le (t.take k);simp at this;omega
   have hlB:(collB 0 (t.take k)).length≤16:=by rw [coll_length];exact hlK
   by_cases h0:t[k].toNat=0
   ·rw [if_pos h0,List.append_nil]at hcB hcK;have t1:((t[k].toNat:Int)!=0)=false:=by simp [h0]
    have HB:=Lib.hid hcB;have HK:=Lib.hid hcK;have HO4:=Lib.hid ho4;have HO5:=Lib.hid ho5;clear hcB hcK h0 ho4 ho5 htr e3 hsn;go_wp2;go_roundw
    case rel=>exact⟨k+1,by omega,by go_num,by rw [HB.out];exact HO4.out,by rw [HK.out];exact HO5.out,hbr⟩
    case measure=>simp [intOf];omega
   ·rw [if_neg h0]at hcB hcK;have t1:((t[k].toNat:Int)!=0)=true:=by simp;omega
    have HB:=Lib.hid hcB;have HK:=Lib.hid hcK;have hu8:Value.int .u8 (k:Int)=bv (UInt8.ofNat k):=by simp only [bv,UInt8.toNat_ofNat'];congr 1;omega
    have HU8:=Lib.hid hu8;have hap:=own_apart ho4 ho5 (by decide);have hap':∀g,u5.ownBlock=some g→u4.ownBlock≠some g:=fun g h5 h4=>hap g h4 h5
    generalize hnB:(collB 0 (t.take k)).length=nB at*;generalize hnK:(collK (t.take k)).length=nK at*;clear hcB hcK h0 htr e3 hsn hu8 hap
    go_wp2_with(first
     | (at_builtin
        refine wpList_app_new2 rfl (.tmp 18) (.tmp 21) 26 rfl Tryz.bytesTy wr w.heap.size u4 nB ((collB 0 (t.take k)).map bv) [.int .u8 (k:Int)] rfl ho4 rfl rfl rfl rfl 1 1 rfl rfl (by simp [Value.oneCell']) (by simp;omega) (by decide) hsz ?_;intro v4' w4 ho4' hb4 hk4;have ho5':=own_kept ho5 hk4 hap';have hsz4:w.heap.size≤w4.heap.size:=Nat.le_trans hsz hb4.size)
     | (at_builtin
        refine wpList_app_new2 rfl (.tmp 23) (.tmp 25) 70 rfl Tryz.wordsTy w4 w.heap.size u5 nK ((collK (t.take k)).map wv) [.int .u64 (t[k].toNat:Int)] rfl ho5' rfl rfl rfl rfl 1 1 rfl rfl (by simp [Value.oneCell']) (by simp;omega) (by decide) hsz4 ?_;intro v5' w5 ho5'' hb5 hk5;have ho4'':=own_kept ho4' hk5 (own_apart ho4' ho5' (by decide))))
    go_roundw
    case rel=>
     refine⟨k+1,by omega,by go_num,?_,?_,hbr.trans (hb4.trans hb5)⟩
     ·rw [HB.out,List.length_append,hnB,List.map_append];rw [HU8.out]at ho4'';exact ho4''
     ·rw [HK.out,List.length_append,hnK,List.map_append];exact ho5''
    case measure=>simp [intOf];omega
  ·have hkn:k=16:=by omega
   subst hkn;rw [List.take_of_length_le (by omega)]at ho4 ho5;obtain⟨A1,c1,hv4,hc1,hr1⟩:=rd_of_own ho4;obtain⟨A2,c2,hv5,hc2,hr2⟩:=rd_of_own ho5;subst hv4 hv5;have HO4:=Lib.hid ho4;have HO5:=Lib.hid ho5;clear ho4 ho5;go_wp2;go_ret2;exact⟨hbr,A1,c1,A2,c2,rfl,HO4.out,HO5.out⟩
theorem own_dn{w:World}{base base' size n:Nat}{e:TypeId}{v:Value}{xs:List Value}(h:w.ownsRow base e size v n xs)(hb:base'≤base):w.ownsRow base' e size v n xs:=
 ⟨h.1,h.2.elim Or.inl (fun⟨g,cap,cur,hv,hg,r⟩=>Or.inr ⟨g,cap,cur,hv,Nat.le_trans hb hg,r⟩)⟩
def DecPost(l:List UInt64)(w:World)(e:Ending)(w':World):Prop:=
 Below w.heap.size w w'∧(if decOk l then∃A1 c1 A2 c2 A3 c3,e= .returned (.tuple #[.agg #[.slice A1 (cand l).pre.length c1,.int .u64 ((cand l).val.toNat:Int),.slice A2 (cand l).labels.length c2,.slice A3 (cand l).kids.length c3],.bool true])∧
  (cand l).pre.length≤c1∧(cand l).labels.length≤c2∧(cand l).kids.length≤c3∧Bs w' A1 (cand l).pre.length (cand l).pre∧Bs w' A2 (cand l).labels.length (cand l).labels∧Ws w' A3 (cand l).kids.length (cand l).kids∧w'.ownsRow w.heap.size 5 1 (.slice A1 (cand l).pre.length c1) (cand l).pre.length ((cand l).pre.map bv)∧w'.ownsRow w.heap.size 5 1 (.slice A2 (cand l).labels.length c2) (cand l).labels.length ((cand l).labels.map bv)∧w'.ownsRow w.heap.size 23 1 (.slice A3 (cand l).kids.length c3) (cand l).kids.length ((cand l).kids.map wv)
  else e= .returned (.tuple #[.agg #[.slice none 0 0,.int .u64 0,.slice none 0 0,.slice none 0 0],.bool false]))
theorem unpackP_any(u:Nat)(w:World)(hu:u<18446744073709551616):
 Calls Tryz.prog 111 #[.int .u64 (u:Int)] w fun e w'=>Below w.heap.size w w'∧∃A c b,e= .returned (.tuple #[.slice A (candP u).length c,.bool b])∧w'.ownsRow w.heap.size 5 1 (.slice A (candP u).length c) (candP u).length ((candP u).map bv):=by
 refine(unpack_any u w hu).mono ?_;rintro e w'⟨hb,h⟩;refine⟨hb,?_⟩;by_cases hz:u/16/16^(u%16)=0
 ·rw [if_pos hz]at h;obtain⟨v,rfl,ho⟩:=h;obtain⟨A,c,rfl,hc,hr⟩:=rd_of_own ho;have e1:candP u=digits (u%16) (u/16):=by rw [candP,if_pos hz]
  rw [e1,digits_length];exact⟨A,c,true,rfl,ho⟩
 ·rw [if_neg hz]at h;subst h;have e1:candP u=[]:=by rw [candP,if_neg hz]
  rw [e1];exact⟨none,0,false,rfl,World.ownsRow_nil _ _ _ _⟩
theorem blk4{w:World}{g:Nat}{e:TypeId}{a b c d:Value}(h:Blk w g e [a,b,c,d]):
 w.cell? ⟨g,0,none⟩=some a∧w.cell? ⟨g,1,none⟩=some b∧w.cell? ⟨g,2,none⟩=some c∧w.cell? ⟨g,3,none⟩=some d∧
 w.frozen? ⟨g,0,none⟩=false∧w.frozen? ⟨g,1,none⟩=false∧w.frozen? ⟨g,2,none⟩=false∧w.frozen? ⟨g,3,none⟩=false:=
 ⟨h.cell 0,h.cell 1,h.cell 2,h.cell 3,h.frozen 0,h.frozen 1,h.frozen 2,h.frozen 3⟩
theorem Blk.far{w:World}{g g':Nat}{e:TypeId}{xs:List Value}(h:Blk w g e xs)(hne:g≠g')(i:Nat)(u:Value):Blk (w.setCell ⟨g',i,none⟩ u) g e xs:=
 (Below.heap_setCell w ⟨g',i,none⟩ u g hne).trans h
theorem two_boxes(w:World)(t:TypeId)(z:Value)(y:Value):∃W,W=(w.alloc (.cells #[z,y,z,z] t)).alloc (.cells #[z,y,z,z] t)∧Blk W w.heap.size t [z,y,z,z]∧Blk W (w.heap.size+1) t [z,y,z,z]∧
 Below w.heap.size w W∧W.heap.size=w.heap.size+2:=by
 refine⟨_,rfl,?_,?_,((Below.refl _ _).alloc (Nat.le_refl _) _).alloc (by simp) _,by simp⟩
 ·have:Blk (w.alloc (.cells #[z,y,z,z] t)) w.heap.size t [z,y,z,z]:=heap_alloc_new w _;exact(Below.heap_alloc _ _ _ (by simp)).trans this
 ·have:Blk ((w.alloc (.cells #[z,y,z,z] t)).alloc (.cells #[z,y,z,z] t)) (w.alloc (.cells #[z,y,z,z] t)).heap.size t [z,y,z,z]:=heap_alloc_new _ _;simpa using this
set_option maxHeartbeats 1000000 in
theorem decode8(A:Option Addr)(c:Nat)(l:List UInt64)(w:World)(hc:8≤c)(h:Ws w A 8 l):
 Calls Tryz.prog 75 #[.slice A 8 c] w (DecPost l w):=by
 have hlen:=h.len;obtain⟨hq1,b,off,rfl,hb0,hc1⟩:=h.at (show 1<8 by decide);go_enter Tryz.func75,Tryz.ntmps75
 go_wp2_with(go_at_call 73;refine(words_any 1 _).mono ?_;rintro e w'⟨rfl,rfl⟩;rw [show wordsN 1=8 from rfl])
 obtain⟨W,hW,B1,B2,hbW,hsW⟩:=two_boxes w 72 (.slice none 0 0) (.int .u64 0);rw [←hW];clear hW;have q3:3<l.length:=by omega
 have hsm:=small_any (some ⟨b,off,none⟩) c l W hc (h.below hbW) l[3] (List.getElem?_eq_getElem q3);have HSM:=Lib.hid hsm;clear hsm;refine HSM.out.mono ?_;rintro e w1⟨hb1,A2,c2,A3,c3,rfl,r2,r3⟩;have R2:=Lib.hid r2;have R3:=Lib.hid r3;clear r2 r3;clear HSM;replace B1:=B1.below hb1 (by omega);replace B2:=B2.below hb1 (by omega);obtain⟨y0,y1,y2,y3,f0,f1,f2,f3⟩:=blk4 B2;have hb01:=hbW.trans (hb1.mono hbW.size);have hx1:w1.cell? ⟨b,off+1,none⟩=some (.int .u64 (l[1].toNat:Int)):=(hb01.cell (p:=⟨b,off+1,none⟩) hb0).trans hc1;have hne:b≠w.heap.size+1:=by omega
 go_wp2_with fail
 have hcand:cand l={pre:=candP l[1].toNat,val:=l[2],labels:=(candS l[3].toNat (l.drop 4)).1,kids:=(candS l[3].toNat (l.drop 4)).2}:=by
  rw [cand,if_pos hlen,cand8];simp [List.getD,show 1<l.length by omega,show 2<l.length by omega,show 3<l.length by omega]
 have hlk2:(candS l[3].toNat (l.drop 4)).1.length≤15:=by unfold candS;split<;>simp [digits_length];omega
 have hlk3:(candS l[3].toNat (l.drop 4)).2.length≤15:=by unfold candS;split<;>simp;omega
 have r2:=R2.out;have r3:=R3.out;clear R2 R3;generalize(candS l[3].toNat (l.drop 4)).1=lb at*;generalize(candS l[3].toNat (l.drop 4)).2=ks at*;have hlp:=candP_len l[1].toNat;have B2':=(B2.set_ 2 (.slice A2 lb.length c2)).set_ 3 (.slice A3 ks.length c3);have B1':=(B1.far (g':=w.heap.size+1) (by omega) 2 (.slice A2 lb.length c2)).far (g':=w.heap.size+1) (by omega) 3 (.slice A3 ks.length c3);have hb02:=(hb01.setCell (p:=⟨w.heap.size+1,2,none⟩) (by simp) (.slice A2 lb.length c2)).setCell (p:=⟨w.heap.size+1,3,none⟩) (by simp) (.slice A3 ks.length c3);have r2':=own_far (own_far r2 (g:=w.heap.size+1) (by omega) 2 (.slice A2 lb.length c2)) (g:=w.heap.size+1) (by omega) 3 (.slice A3 ks.length c3);have r3':=own_far (own_far r3 (g:=w.heap.size+1) (by omega) 2 (.slice A2 lb.length c2)) (g:=w.heap.size+1) (by omega) 3 (.slice A3 ks.length c3);have hs2:w.heap.size+2≤((w1.setCell ⟨w.heap.size+1,2,none⟩ (.slice A2 lb.length c2)).setCell ⟨w.heap.size+1,3,none⟩ (.slice A3 ks.length c3)).heap.size:=by
  have:=hb1.size;simp only [World.setCell,Array.size_modify];omega
 clear r2 r3 B1 B2 hb01 y0 y1 y2 y3 f0 f1 f2 f3 hx1 hb1;generalize(w1.setCell ⟨w.heap.size+1,2,none⟩ (.slice A2 lb.length c2)).setCell ⟨w.heap.size+1,3,none⟩ (.slice A3 ks.length c3)=W2 at*;refine(unpackP_any l[1].toNat W2 (by have:=l[1].toNat_lt;simpa [UInt64.size]using this)).mono ?_;rintro e w3⟨hb3,A1,c1,b1,rfl,r1⟩;replace B1':=B1'.below hb3 B1'.lt;replace B2':=B2'.below hb3 B2'.lt;have hb03:=hb02.trans (hb3.mono hb02.size);obtain⟨y0,y1,y2,y3,f0,f1,f2,f3⟩:=blk4 B2';have hx2:w3.cell? ⟨b,off+2,none⟩=some (.int .u64 (l[2].toNat:Int)):=(hb03.cell (p:=⟨b,off+2,none⟩) hb0).trans (h.cellAt (by decide) (by omega))
 go_wp2_with fail
 have B2'':=(B2'.set_ 0 (.slice A1 (candP l[1].toNat).length c1)).set_ 1 (.int .u64 (l[2].toNat:Int));have B1'':=(B1'.far (g':=w.heap.size+1) (by omega) 0 (.slice A1 (candP l[1].toNat).length c1)).far (g':=w.heap.size+1) (by omega) 1 (.int .u64 (l[2].toNat:Int));have hb04:=(hb03.setCell (p:=⟨w.heap.size+1,0,none⟩) (by simp) (.slice A1 (candP l[1].toNat).length c1)).setCell (p:=⟨w.heap.size+1,1,none⟩) (by simp) (.int .u64 (l[2].toNat:Int));have s2:=own_far (own_far (own_below r2' hb3) (g:=w.heap.size+1) (by omega) 0 (.slice A1 (candP l[1].toNat).length c1)) (g:=w.heap.size+1) (by omega) 1 (.int .u64 (l[2].toNat:Int));have s3:=own_far (own_far (own_below r3' hb3) (g:=w.heap.size+1) (by omega) 0 (.slice A1 (candP l[1].toNat).length c1)) (g:=w.heap.size+1) (by omega) 1 (.int .u64 (l[2].toNat:Int));have s1:=own_far (own_far r1 (g:=w.heap.size+1) (by omega) 0 (.slice A1 (candP l[1].toNat).length c1)) (g:=w.heap.size+1) (by omega) 1 (.int .u64 (l[2].toNat:Int));clear r1 r2' r3' B1' B2' hb02 hb03 y0 y1 y2 y3 f0 f1 f2 f3 hx2;generalize(w3.setCell ⟨w.heap.size+1,0,none⟩ (.slice A1 (candP l[1].toNat).length c1)).setCell ⟨w.heap.size+1,1,none⟩ (.int .u64 (l[2].toNat:Int))=W4 at*;have hen:=encode_node A1 A2 A3 (candP l[1].toNat).length c1 lb.length c2 ks.length c3 (cand l) W4 (by omega) (by omega) (by omega) (by rw [hcand];exact(rd_own s1).2) (by rw [hcand];exact(rd_own s2).2) (by rw [hcand];exact(rd_own s3).2);rw [show(cand l).val=l[2]by rw [hcand]]at hen;have HEN:=Lib.hid hen;have HC:=Lib.hid hcand;clear hen hcand;obtain⟨y0,y1,y2,y3,f0,f1,f2,f3⟩:=blk4 B2''
 go_wp2_with fail
 refine HEN.out.mono ?_;rintro e w5⟨hb5,hE⟩;clear HEN y0 y1 y2 y3 f0 f1 f2 f3;replace B1'':=B1''.below hb5 B1''.lt;replace B2'':=B2''.below hb5 B2''.lt;obtain⟨y0,y1,y2,y3,f0,f1,f2,f3⟩:=blk4 B2'';obtain⟨z0,z1,z2,z3,k0,k1,k2,k3⟩:=blk4 B1'';have hb05:=hb04.trans (hb5.mono hb04.size);cases hR:rightB (cand l)with
 | false=>
   rw [hR]at hE;subst hE;have HD:Hid (decOk l=false):=Lib.hid (by rw [decOk,hR];simp);clear hR
   go_wp2_with fail
   have BF:=((((B1''.set_ 0 (Value.slice none 0 0)).set_ 1 (Value.int .u64 0)).set_ 2 (Value.slice none 0 0)).set_ 3 (Value.slice none 0 0));have hbF:=(((hb05.setCell (p:=⟨w.heap.size,0,none⟩) (Nat.le_refl _) (Value.slice none 0 0)).setCell (p:=⟨w.heap.size,1,none⟩) (Nat.le_refl _) (Value.int .u64 0)).setCell (p:=⟨w.heap.size,2,none⟩) (Nat.le_refl _) (Value.slice none 0 0)).setCell (p:=⟨w.heap.size,3,none⟩) (Nat.le_refl _) (Value.slice none 0 0);generalize(((w5.setCell ⟨w.heap.size,0,none⟩ (Value.slice none 0 0)).setCell ⟨w.heap.size,1,none⟩ (Value.int .u64 0)).setCell ⟨w.heap.size,2,none⟩ (Value.slice none 0 0)).setCell ⟨w.heap.size,3,none⟩ (Value.slice none 0 0)=WF at*;obtain⟨p0,p1,p2,p3,_⟩:=blk4 BF;refine bodyPost_ret (v:= .tuple #[.agg #[Value.slice none 0 0,Value.int .u64 0,Value.slice none 0 0,Value.slice none 0 0],.bool false]) (by simp [results,Tryz.results75,go_sem,p0,p1,p2,p3]) rfl ?_;exact⟨hbF,by rw [HD.out];rfl⟩
 | true=>
   rw [hR,if_pos rfl]at hE;obtain⟨v5,rfl,ho5⟩:=hE;obtain⟨A5,c5,rfl,_,hr5⟩:=rd_of_own ho5;have heq:=equalW_any A5 (some ⟨b,off,none⟩) (encW (cand l)).length 8 c5 c (encW (cand l)) l w5 (by rw [encW_length];split<;>decide) (by decide) hr5 (h.below hb05);have hnn:(encW (cand l)).length≤32:=by rw [encW_length];split<;>decide
   generalize(encW (cand l)).length=n5 at*;have HEQ:=Lib.hid heq;clear heq ho5 hr5;by_cases he:encW (cand l)=l
   ·have HD:Hid (decOk l=true):=Lib.hid (by rw [decOk,hR];simp [hlen,he]);have HE:Hid (decide (encW (cand l)=l)=true):=Lib.hid (by simp [he]);clear he hR
    go_wp2_with fail
    refine HEQ.out.mono ?_;rintro e w6⟨rfl,hdr⟩;have hb6:Below w5.heap.size w5 w6:=hdr.below _;replace B1'':=B1''.below hb6 B1''.lt;replace B2'':=B2''.below hb6 B2''.lt;replace hb05:=hb05.trans (hb6.mono hb05.size);clear y0 y1 y2 y3 f0 f1 f2 f3 z0 z1 z2 z3 k0 k1 k2 k3 hdr;obtain⟨y0,y1,y2,y3,f0,f1,f2,f3⟩:=blk4 B2'';obtain⟨z0,z1,z2,z3,k0,k1,k2,k3⟩:=blk4 B1'';rw [HE.out];clear HEQ HE
    go_wp2_with fail
    have BF:=((((B1''.set_ 0 (Value.slice A1 (candP l[1].toNat).length c1)).set_ 1 (Value.int .u64 (l[2].toNat:Int))).set_ 2 (Value.slice A2 lb.length c2)).set_ 3 (Value.slice A3 ks.length c3));have hbF:=(((hb05.setCell (p:=⟨w.heap.size,0,none⟩) (Nat.le_refl _) (Value.slice A1 (candP l[1].toNat).length c1)).setCell (p:=⟨w.heap.size,1,none⟩) (Nat.le_refl _) (Value.int .u64 (l[2].toNat:Int))).setCell (p:=⟨w.heap.size,2,none⟩) (Nat.le_refl _) (Value.slice A2 lb.length c2)).setCell (p:=⟨w.heap.size,3,none⟩) (Nat.le_refl _) (Value.slice A3 ks.length c3);have S1:=own_far (own_far (own_far (own_far (own_below (own_below s1 hb5) hb6) (g:=w.heap.size) (by omega) 0 (Value.slice A1 (candP l[1].toNat).length c1)) (g:=w.heap.size) (by omega) 1 (Value.int .u64 (l[2].toNat:Int))) (g:=w.heap.size) (by omega) 2 (Value.slice A2 lb.length c2)) (g:=w.heap.size) (by omega) 3 (Value.slice A3 ks.length c3);have S2:=own_far (own_far (own_far (own_far (own_below (own_below s2 hb5) hb6) (g:=w.heap.size) (by omega) 0 (Value.slice A1 (candP l[1].toNat).length c1)) (g:=w.heap.size) (by omega) 1 (Value.int .u64 (l[2].toNat:Int))) (g:=w.heap.size) (by omega) 2 (Value.slice A2 lb.length c2)) (g:=w.heap.size) (by omega) 3 (Value.slice A3 ks.length c3);have S3:=own_far (own_far (own_far (own_far (own_below (own_below s3 hb5) hb6) (g:=w.heap.size) (by omega) 0 (Value.slice A1 (candP l[1].toNat).length c1)) (g:=w.heap.size) (by omega) 1 (Value.int .u64 (l[2].toNat:Int))) (g:=w.heap.size) (by omega) 2 (Value.slice A2 lb.length c2)) (g:=w.heap.size) (by omega) 3 (Value.slice A3 ks.length c3);generalize(((w6.setCell ⟨w.heap.size,0,none⟩ (Value.slice A1 (candP l[1].toNat).length c1)).setCell ⟨w.heap.size,1,none⟩ (Value.int .u64 (l[2].toNat:Int))).setCell ⟨w.heap.size,2,none⟩ (Value.slice A2 lb.length c2)).setCell ⟨w.heap.size,3,none⟩ (Value.slice A3 ks.length c3)=WF at*;obtain⟨p0,p1,p2,p3,_⟩:=blk4 BF;refine bodyPost_ret (v:= .tuple #[.agg #[Value.slice A1 (candP l[1].toNat).length c1,Value.int .u64 (l[2].toNat:Int),Value.slice A2 lb.length c2,Value.slice A3 ks.length c3],.bool true]) (by simp [results,Tryz.results75,go_sem,p0,p1,p2,p3]) rfl ?_;refine⟨hbF,?_⟩;rw [HD.out,if_pos rfl,HC.out];exact⟨A1,c1,A2,c2,A3,c3,rfl,(rd_own S1).1,(rd_own S2).1,(rd_own S3).1,(rd_own S1).2,(rd_own S2).2,(rd_own S3).2,own_dn S1 (by omega),own_dn S2 (by omega),own_dn S3 (by omega)⟩
   ·have HD:Hid (decOk l=false):=Lib.hid (by rw [decOk,hR];simp [he]);have HE:Hid (decide (encW (cand l)=l)=false):=Lib.hid (by simp [he]);clear he hR
    go_wp2_with fail
    refine HEQ.out.mono ?_;rintro e w6⟨rfl,hdr⟩;have hb6:Below w5.heap.size w5 w6:=hdr.below _;replace B1'':=B1''.below hb6 B1''.lt;replace B2'':=B2''.below hb6 B2''.lt;replace hb05:=hb05.trans (hb6.mono hb05.size);clear y0 y1 y2 y3 f0 f1 f2 f3 z0 z1 z2 z3 k0 k1 k2 k3 hdr;obtain⟨y0,y1,y2,y3,f0,f1,f2,f3⟩:=blk4 B2'';obtain⟨z0,z1,z2,z3,k0,k1,k2,k3⟩:=blk4 B1'';rw [HE.out];clear HEQ HE
    go_wp2_with fail
    have BF:=((((B1''.set_ 0 (Value.slice none 0 0)).set_ 1 (Value.int .u64 0)).set_ 2 (Value.slice none 0 0)).set_ 3 (Value.slice none 0 0));have hbF:=(((hb05.setCell (p:=⟨w.heap.size,0,none⟩) (Nat.le_refl _) (Value.slice none 0 0)).setCell (p:=⟨w.heap.size,1,none⟩) (Nat.le_refl _) (Value.int .u64 0)).setCell (p:=⟨w.heap.size,2,none⟩) (Nat.le_refl _) (Value.slice none 0 0)).setCell (p:=⟨w.heap.size,3,none⟩) (Nat.le_refl _) (Value.slice none 0 0);generalize(((w6.setCell ⟨w.heap.size,0,none⟩ (Value.slice none 0 0)).setCell ⟨w.heap.size,1,none⟩ (Value.int .u64 0)).setCell ⟨w.heap.size,2,none⟩ (Value.slice none 0 0)).setCell ⟨w.heap.size,3,none⟩ (Value.slice none 0 0)=WF at*;obtain⟨p0,p1,p2,p3,_⟩:=blk4 BF;refine bodyPost_ret (v:= .tuple #[.agg #[Value.slice none 0 0,Value.int .u64 0,Value.slice none 0 0,Value.slice none 0 0],.bool false]) (by simp [results,Tryz.results75,go_sem,p0,p1,p2,p3]) rfl ?_;exact⟨hbF,by rw [HD.out];rfl⟩
set_option maxHeartbeats 1000000 in
theorem decode32(A:Option Addr)(c:Nat)(l:List UInt64)(w:World)(hc:32≤c)(h:Ws w A 32 l):
 Calls Tryz.prog 75 #[.slice A 32 c] w (DecPost l w):=by
 have hlen:=h.len;obtain⟨hq1,b,off,rfl,hb0,hc1⟩:=h.at (show 1<32 by decide);go_enter Tryz.func75,Tryz.ntmps75
 go_wp2_with(first| (go_at_call_of 73(Value.int IntKind.i64 1);refine(words_any 1 _).mono ?_;rintro e w'⟨rfl,rfl⟩;rw [show wordsN 1=8 from rfl])| (go_at_call_of 73(Value.int IntKind.i64 2);refine(words_any 2 _).mono ?_;rintro e w'⟨rfl,rfl⟩;rw [show wordsN 2=32 from rfl]))
 obtain⟨W,hW,B1,B2,hbW,hsW⟩:=two_boxes w 72 (.slice none 0 0) (.int .u64 0);rw [←hW];clear hW;have q3:3<l.length:=by omega
 have hsm:=big_any (some ⟨b,off,none⟩) c l W hc (h.below hbW);have HSM:=Lib.hid hsm;clear hsm;refine HSM.out.mono ?_;rintro e w1⟨hb1,A2,c2,A3,c3,rfl,r2,r3⟩;have R2:=Lib.hid r2;have R3:=Lib.hid r3;clear r2 r3;clear HSM;replace B1:=B1.below hb1 (by omega);replace B2:=B2.below hb1 (by omega);obtain⟨y0,y1,y2,y3,f0,f1,f2,f3⟩:=blk4 B2;have hb01:=hbW.trans (hb1.mono hbW.size);have hx1:w1.cell? ⟨b,off+1,none⟩=some (.int .u64 (l[1].toNat:Int)):=(hb01.cell (p:=⟨b,off+1,none⟩) hb0).trans hc1;have hne:b≠w.heap.size+1:=by omega
 go_wp2_with fail
 have hcand:cand l={pre:=candP l[1].toNat,val:=l[2],labels:=(collB 0 ((l.drop 4).take 16)),kids:=(collK ((l.drop 4).take 16))}:=by
  rw [cand,if_neg (by omega),cand32];simp [List.getD,show 1<l.length by omega,show 2<l.length by omega]
 have hlk3:(collK ((l.drop 4).take 16)).length≤16:=by have:=collK_le ((l.drop 4).take 16);simp at this;omega
 have hlk2:(collB 0 ((l.drop 4).take 16)).length≤16:=by rw [coll_length];exact hlk3
 have r2:=R2.out;have r3:=R3.out;clear R2 R3;generalize(collB 0 ((l.drop 4).take 16))=lb at*;generalize(collK ((l.drop 4).take 16))=ks at*;have hlp:=candP_len l[1].toNat;have B2':=(B2.set_ 2 (.slice A2 lb.length c2)).set_ 3 (.slice A3 ks.length c3);have B1':=(B1.far (g':=w.heap.size+1) (by omega) 2 (.slice A2 lb.length c2)).far (g':=w.heap.size+1) (by omega) 3 (.slice A3 ks.length c3);have hb02:=(hb01.setCell (p:=⟨w.heap.size+1,2,none⟩) (by simp) (.slice A2 lb.length c2)).setCell (p:=⟨w.heap.size+1,3,none⟩) (by simp) (.slice A3 ks.length c3);have r2':=own_far (own_far r2 (g:=w.heap.size+1) (by omega) 2 (.slice A2 lb.length c2)) (g:=w.heap.size+1) (by omega) 3 (.slice A3 ks.length c3);have r3':=own_far (own_far r3 (g:=w.heap.size+1) (by omega) 2 (.slice A2 lb.length c2)) (g:=w.heap.size+1) (by omega) 3 (.slice A3 ks.length c3);have hs2:w.heap.size+2≤((w1.setCell ⟨w.heap.size+1,2,none⟩ (.slice A2 lb.length c2)).setCell ⟨w.heap.size+1,3,none⟩ (.slice A3 ks.length c3)).heap.size:=by
  have:=hb1.size;simp only [World.setCell,Array.size_modify];omega
 clear r2 r3 B1 B2 hb01 y0 y1 y2 y3 f0 f1 f2 f3 hx1 hb1;generalize(w1.setCell ⟨w.heap.size+1,2,none⟩ (.slice A2 lb.length c2)).setCell ⟨w.heap.size+1,3,none⟩ (.slice A3 ks.length c3)=W2 at*;refine(unpackP_any l[1].toNat W2 (by have:=l[1].toNat_lt;simpa [UInt64.size]using this)).mono ?_;rintro e w3⟨hb3,A1,c1,b1,rfl,r1⟩;replace B1':=B1'.below hb3 B1'.lt;replace B2':=B2'.below hb3 B2'.lt;have hb03:=hb02.trans (hb3.mono hb02.size);obtain⟨y0,y1,y2,y3,f0,f1,f2,f3⟩:=blk4 B2';have hx2:w3.cell? ⟨b,off+2,none⟩=some (.int .u64 (l[2].toNat:Int)):=(hb03.cell (p:=⟨b,off+2,none⟩) hb0).trans (h.cellAt (by decide) (by omega))
 go_wp2_with fail
 have B2'':=(B2'.set_ 0 (.slice A1 (candP l[1].toNat).length c1)).set_ 1 (.int .u64 (l[2].toNat:Int));have B1'':=(B1'.far (g':=w.heap.size+1) (by omega) 0 (.slice A1 (candP l[1].toNat).length c1)).far (g':=w.heap.size+1) (by omega) 1 (.int .u64 (l[2].toNat:Int));have hb04:=(hb03.setCell (p:=⟨w.heap.size+1,0,none⟩) (by simp) (.slice A1 (candP l[1].toNat).length c1)).setCell (p:=⟨w.heap.size+1,1,none⟩) (by simp) (.int .u64 (l[2].toNat:Int));have s2:=own_far (own_far (own_below r2' hb3) (g:=w.heap.size+1) (by omega) 0 (.slice A1 (candP l[1].toNat).length c1)) (g:=w.heap.size+1) (by omega) 1 (.int .u64 (l[2].toNat:Int));have s3:=own_far (own_far (own_below r3' hb3) (g:=w.heap.size+1) (by omega) 0 (.slice A1 (candP l[1].toNat).length c1)) (g:=w.heap.size+1) (by omega) 1 (.int .u64 (l[2].toNat:Int));have s1:=own_far (own_far r1 (g:=w.heap.size+1) (by omega) 0 (.slice A1 (candP l[1].toNat).length c1)) (g:=w.heap.size+1) (by omega) 1 (.int .u64 (l[2].toNat:Int));clear r1 r2' r3' B1' B2' hb02 hb03 y0 y1 y2 y3 f0 f1 f2 f3 hx2;generalize(w3.setCell ⟨w.heap.size+1,0,none⟩ (.slice A1 (candP l[1].toNat).length c1)).setCell ⟨w.heap.size+1,1,none⟩ (.int .u64 (l[2].toNat:Int))=W4 at*;have hen:=encode_node A1 A2 A3 (candP l[1].toNat).length c1 lb.length c2 ks.length c3 (cand l) W4 (by omega) (by omega) (by omega) (by rw [hcand];exact(rd_own s1).2) (by rw [hcand];exact(rd_own s2).2) (by rw [hcand];exact(rd_own s3).2);rw [show(cand l).val=l[2]by rw [hcand]]at hen;have HEN:=Lib.hid hen;have HC:=Lib.hid hcand;clear hen hcand;obtain⟨y0,y1,y2,y3,f0,f1,f2,f3⟩:=blk4 B2''
 go_wp2_with fail
 refine HEN.out.mono ?_;rintro e w5⟨hb5,hE⟩;clear HEN y0 y1 y2 y3 f0 f1 f2 f3;replace B1'':=B1''.below hb5 B1''.lt;replace B2'':=B2''.below hb5 B2''.lt;obtain⟨y0,y1,y2,y3,f0,f1,f2,f3⟩:=blk4 B2'';obtain⟨z0,z1,z2,z3,k0,k1,k2,k3⟩:=blk4 B1'';have hb05:=hb04.trans (hb5.mono hb04.size);cases hR:rightB (cand l)with
 | false=>
   rw [hR]at hE;subst hE;have HD:Hid (decOk l=false):=Lib.hid (by rw [decOk,hR];simp);clear hR
   go_wp2_with fail
   have BF:=((((B1''.set_ 0 (Value.slice none 0 0)).set_ 1 (Value.int .u64 0)).set_ 2 (Value.slice none 0 0)).set_ 3 (Value.slice none 0 0));have hbF:=(((hb05.setCell (p:=⟨w.heap.size,0,none⟩) (Nat.le_refl _) (Value.slice none 0 0)).setCell (p:=⟨w.heap.size,1,none⟩) (Nat.le_refl _) (Value.int .u64 0)).setCell (p:=⟨w.heap.size,2,none⟩) (Nat.le_refl _) (Value.slice none 0 0)).setCell (p:=⟨w.heap.size,3,none⟩) (Nat.le_refl _) (Value.slice none 0 0);generalize(((w5.setCell ⟨w.heap.size,0,none⟩ (Value.slice none 0 0)).setCell ⟨w.heap.size,1,none⟩ (Value.int .u64 0)).setCell ⟨w.heap.size,2,none⟩ (Value.slice none 0 0)).setCell ⟨w.heap.size,3,none⟩ (Value.slice none 0 0)=WF at*;obtain⟨p0,p1,p2,p3,_⟩:=blk4 BF;refine bodyPost_ret (v:= .tuple #[.agg #[Value.slice none 0 0,Value.int .u64 0,Value.slice none 0 0,Value.slice none 0 0],.bool false]) (by simp [results,Tryz.results75,go_sem,p0,p1,p2,p3]) rfl ?_;exact⟨hbF,by rw [HD.out];rfl⟩
 | true=>
   rw [hR,if_pos rfl]at hE;obtain⟨v5,rfl,ho5⟩:=hE;obtain⟨A5,c5,rfl,_,hr5⟩:=rd_of_own ho5;have heq:=equalW_any A5 (some ⟨b,off,none⟩) (encW (cand l)).length 32 c5 c (encW (cand l)) l w5 (by rw [encW_length];split<;>decide) (by decide) hr5 (h.below hb05);have hnn:(encW (cand l)).length≤32:=by rw [encW_length];split<;>decide
   generalize(encW (cand l)).length=n5 at*;have HEQ:=Lib.hid heq;clear heq ho5 hr5;by_cases he:encW (cand l)=l
   ·have HD:Hid (decOk l=true):=Lib.hid (by rw [decOk,hR];simp [hlen,he]);have HE:Hid (decide (encW (cand l)=l)=true):=Lib.hid (by simp [he]);clear he hR
    go_wp2_with fail
    refine HEQ.out.mono ?_;rintro e w6⟨rfl,hdr⟩;have hb6:Below w5.heap.size w5 w6:=hdr.below _;replace B1'':=B1''.below hb6 B1''.lt;replace B2'':=B2''.below hb6 B2''.lt;replace hb05:=hb05.trans (hb6.mono hb05.size);clear y0 y1 y2 y3 f0 f1 f2 f3 z0 z1 z2 z3 k0 k1 k2 k3 hdr;obtain⟨y0,y1,y2,y3,f0,f1,f2,f3⟩:=blk4 B2'';obtain⟨z0,z1,z2,z3,k0,k1,k2,k3⟩:=blk4 B1'';rw [HE.out];clear HEQ HE
    go_wp2_with fail
    have BF:=((((B1''.set_ 0 (Value.slice A1 (candP l[1].toNat).length c1)).set_ 1 (Value.int .u64 (l[2].toNat:Int))).set_ 2 (Value.slice A2 lb.length c2)).set_ 3 (Value.slice A3 ks.length c3));have hbF:=(((hb05.setCell (p:=⟨w.heap.size,0,none⟩) (Nat.le_refl _) (Value.slice A1 (candP l[1].toNat).length c1)).setCell (p:=⟨w.heap.size,1,none⟩) (Nat.le_refl _) (Value.int .u64 (l[2].toNat:Int))).setCell (p:=⟨w.heap.size,2,none⟩) (Nat.le_refl _) (Value.slice A2 lb.length c2)).setCell (p:=⟨w.heap.size,3,none⟩) (Nat.le_refl _) (Value.slice A3 ks.length c3);have S1:=own_far (own_far (own_far (own_far (own_below (own_below s1 hb5) hb6) (g:=w.heap.size) (by omega) 0 (Value.slice A1 (candP l[1].toNat).length c1)) (g:=w.heap.size) (by omega) 1 (Value.int .u64 (l[2].toNat:Int))) (g:=w.heap.size) (by omega) 2 (Value.slice A2 lb.length c2)) (g:=w.heap.size) (by omega) 3 (Value.slice A3 ks.length c3);have S2:=own_far (own_far (own_far (own_far (own_below (own_below s2 hb5) hb6) (g:=w.heap.size) (by omega) 0 (Value.slice A1 (candP l[1].toNat).length c1)) (g:=w.heap.size) (by omega) 1 (Value.int .u64 (l[2].toNat:Int))) (g:=w.heap.size) (by omega) 2 (Value.slice A2 lb.length c2)) (g:=w.heap.size) (by omega) 3 (Value.slice A3 ks.length c3);have S3:=own_far (own_far (own_far (own_far (own_below (own_below s3 hb5) hb6) (g:=w.heap.size) (by omega) 0 (Value.slice A1 (candP l[1].toNat).length c1)) (g:=w.heap.size) (by omega) 1 (Value.int .u64 (l[2].toNat:Int))) (g:=w.heap.size) (by omega) 2 (Value.slice A2 lb.length c2)) (g:=w.heap.size) (by omega) 3 (Value.slice A3 ks.length c3);generalize(((w6.setCell ⟨w.heap.size,0,none⟩ (Value.slice A1 (candP l[1].toNat).length c1)).setCell ⟨w.heap.size,1,none⟩ (Value.int .u64 (l[2].toNat:Int))).setCell ⟨w.heap.size,2,none⟩ (Value.slice A2 lb.length c2)).setCell ⟨w.heap.size,3,none⟩ (Value.slice A3 ks.length c3)=WF at*;obtain⟨p0,p1,p2,p3,_⟩:=blk4 BF;refine bodyPost_ret (v:= .tuple #[.agg #[Value.slice A1 (candP l[1].toNat).length c1,Value.int .u64 (l[2].toNat:Int),Value.slice A2 lb.length c2,Value.slice A3 ks.length c3],.bool true]) (by simp [results,Tryz.results75,go_sem,p0,p1,p2,p3]) rfl ?_;refine⟨hbF,?_⟩;rw [HD.out,if_pos rfl,HC.out];exact⟨A1,c1,A2,c2,A3,c3,rfl,(rd_own S1).1,(rd_own S2).1,(rd_own S3).1,(rd_own S1).2,(rd_own S2).2,(rd_own S3).2,own_dn S1 (by omega),own_dn S2 (by omega),own_dn S3 (by omega)⟩
   ·have HD:Hid (decOk l=false):=Lib.hid (by rw [decOk,hR];simp [he]);have HE:Hid (decide (encW (cand l)=l)=false):=Lib.hid (by simp [he]);clear he hR
    go_wp2_with fail
    refine HEQ.out.mono ?_;rintro e w6⟨rfl,hdr⟩;have hb6:Below w5.heap.size w5 w6:=hdr.below _;replace B1'':=B1''.below hb6 B1''.lt;replace B2'':=B2''.below hb6 B2''.lt;replace hb05:=hb05.trans (hb6.mono hb05.size);clear y0 y1 y2 y3 f0 f1 f2 f3 z0 z1 z2 z3 k0 k1 k2 k3 hdr;obtain⟨y0,y1,y2,y3,f0,f1,f2,f3⟩:=blk4 B2'';obtain⟨z0,z1,z2,z3,k0,k1,k2,k3⟩:=blk4 B1'';rw [HE.out];clear HEQ HE
    go_wp2_with fail
    have BF:=((((B1''.set_ 0 (Value.slice none 0 0)).set_ 1 (Value.int .u64 0)).set_ 2 (Value.slice none 0 0)).set_ 3 (Value.slice none 0 0));have hbF:=(((hb05.setCell (p:=⟨w.heap.size,0,none⟩) (Nat.le_refl _) (Value.slice none 0 0)).setCell (p:=⟨w.heap.size,1,none⟩) (Nat.le_refl _) (Value.int .u64 0)).setCell (p:=⟨w.heap.size,2,none⟩) (Nat.le_refl _) (Value.slice none 0 0)).setCell (p:=⟨w.heap.size,3,none⟩) (Nat.le_refl _) (Value.slice none 0 0);generalize(((w6.setCell ⟨w.heap.size,0,none⟩ (Value.slice none 0 0)).setCell ⟨w.heap.size,1,none⟩ (Value.int .u64 0)).setCell ⟨w.heap.size,2,none⟩ (Value.slice none 0 0)).setCell ⟨w.heap.size,3,none⟩ (Value.slice none 0 0)=WF at*;obtain⟨p0,p1,p2,p3,_⟩:=blk4 BF;refine bodyPost_ret (v:= .tuple #[.agg #[Value.slice none 0 0,Value.int .u64 0,Value.slice none 0 0,Value.slice none 0 0],.bool false]) (by simp [results,Tryz.results75,go_sem,p0,p1,p2,p3]) rfl ?_;exact⟨hbF,by rw [HD.out];rfl⟩
set_option maxHeartbeats 400000 in
theorem decode_other(A:Option Addr)(n c:Nat)(l:List UInt64)(w:World)(_hn:n≤1000000)(h:Ws w A n l)(h8:n≠8)(h32:n≠32):
 Calls Tryz.prog 75 #[.slice A n c] w (DecPost l w):=by
 have hlen:=h.len;have HD:Hid (decOk l=false):=Lib.hid (by rw [decOk,hlen];simp [h8,h32]);have t8:((n:Int)==8)=false:=by simp;omega
 have t32:((n:Int)==32)=false:=by simp;omega
 obtain⟨W,hW,B1,B2,hbW,hsW⟩:=two_boxes w 72 (.slice none 0 0) (.int .u64 0);obtain⟨z0,z1,z2,z3,k0,k1,k2,k3⟩:=blk4 B1;have HW:=Lib.hid hW;clear hW h8 h32;go_enter Tryz.func75,Tryz.ntmps75
 go_wp2_with fail
 rw [←HW.out];refine(words_any 1 _).mono ?_;rintro e w'⟨rfl,rfl⟩;rw [show wordsN 1=8 from rfl]
 go_wp2_with fail
 refine(words_any 2 _).mono ?_;rintro e w'⟨rfl,rfl⟩;rw [show wordsN 2=32 from rfl]
 go_wp2_with fail
 have BF:=((((B1.set_ 0 (Value.slice none 0 0)).set_ 1 (Value.int .u64 0)).set_ 2 (Value.slice none 0 0)).set_ 3 (Value.slice none 0 0));have hbF:=(((hbW.setCell (p:=⟨w.heap.size,0,none⟩) (Nat.le_refl _) (Value.slice none 0 0)).setCell (p:=⟨w.heap.size,1,none⟩) (Nat.le_refl _) (Value.int .u64 0)).setCell (p:=⟨w.heap.size,2,none⟩) (Nat.le_refl _) (Value.slice none 0 0)).setCell (p:=⟨w.heap.size,3,none⟩) (Nat.le_refl _) (Value.slice none 0 0);generalize(((W.setCell ⟨w.heap.size,0,none⟩ (Value.slice none 0 0)).setCell ⟨w.heap.size,1,none⟩ (Value.int .u64 0)).setCell ⟨w.heap.size,2,none⟩ (Value.slice none 0 0)).setCell ⟨w.heap.size,3,none⟩ (Value.slice none 0 0)=WF at*;obtain⟨p0,p1,p2,p3,_⟩:=blk4 BF;refine bodyPost_ret (v:= .tuple #[.agg #[Value.slice none 0 0,Value.int .u64 0,Value.slice none 0 0,Value.slice none 0 0],.bool false]) (by simp [results,Tryz.results75,go_sem,p0,p1,p2,p3]) rfl ?_;exact⟨hbF,by rw [HD.out];rfl⟩
theorem decode_any(A:Option Addr)(n c:Nat)(l:List UInt64)(w:World)(hn:n≤1000000)(hc:n≤c)(h:Ws w A n l):
 Calls Tryz.prog 75 #[.slice A n c] w (DecPost l w):=by
 by_cases h8:n=8
 ·subst h8;exact decode8 A c l w hc h
 ·by_cases h32:n=32
  ·subst h32;exact decode32 A c l w hc h
  ·exact decode_other A n c l w hn h h8 h32
def kidV(x:Nd)(label:UInt8):Value:=
 match x.labels.findIdx? (fun y=>y.toNat==label.toNat)with
 | some i=>if rightB x then .tuple #[.int .u64 ((x.kids.getD i 0).toNat:Int),.int .i64 (if x.kids.length≤4 then 4+(i:Int)else 4+(label.toNat:Int)),.bool true]else .tuple #[.int .u64 0,.int .i64 0,.bool false]
 | none=> .tuple #[.int .u64 0,.int .i64 0,.bool false]
set_option maxHeartbeats 1000000 in
theorem kid_node(A1 A2 A3:Option Addr)(n1 c1 n2 c2 n3 c3:Nat)(x:Nd)(label:UInt8)(w:World)(b1:n1≤1000000)(b2:n2≤1000000)(b3:n3≤1000000)(h1:Bs w A1 n1 x.pre)(h2:Bs w A2 n2 x.labels)(h3:Ws w A3 n3 x.kids):
 Calls Tryz.prog 47 #[.agg #[.slice A1 n1 c1,.int .u64 (x.val.toNat:Int),.slice A2 n2 c2,.slice A3 n3 c3],.int .u8 (label.toNat:Int)] w fun e w'=>e= .returned (kidV x label)∧Below w.heap.size w w':=by
 have hl1:=h1.len;have hl2:=h2.len;have hl3:=h3.len;have hlb:label.toNat<256:=label.toNat_lt;obtain⟨W,hW,e0,e1,e2,e3,hb,hs⟩:=box4 w 72 (.slice A1 n1 c1) (.int .u64 (x.val.toNat:Int)) (.slice A2 n2 c2) (.slice A3 n3 c3);have hix:=indexB_any A2 n2 c2 x.labels label W (by omega) (h2.below hb);have hri:=right_node A1 A2 A3 n1 c1 n2 c2 n3 c3 x W b1 b2 b3 (h1.below hb) (h2.below hb) (h3.below hb);have HW:=Lib.hid hW;have HIX:=Lib.hid hix;have HRI:=Lib.hid hri;clear hW hix hri;cases hf:x.labels.findIdx? (fun y=>y.toNat==label.toNat)with
 | none=>
   have hpl:placeOf (fun y=>y.toNat==label.toNat) x.labels= -1:=by rw [placeOf,hf]
   have HV:Hid (kidV x label= .tuple #[.int .u64 0,.int .i64 0,.bool false]):=Lib.hid (by rw [kidV,hf]);have HPL:=Lib.hid hpl;clear hpl hf;go_enter Tryz.func47,Tryz.ntmps47
   go_wp2_with fail
   rw [←HW.out];refine HIX.out.mono ?_;rintro e w'⟨rfl,rfl⟩;rw [HPL.out]
   go_wp2_with fail
   go_ret3
   exact⟨by rw [HV.out];rfl,hb⟩
 | some i=>
   have hi0:decide ((i:Int)<0)=false:=by simp
   have hpl:placeOf (fun y=>y.toNat==label.toNat) x.labels=(i:Int):=by rw [placeOf,hf]
   have hi:i<n2:=by
    rw [List.findIdx?_eq_some_iff_getElem]at hf;obtain⟨hi,_⟩:=hf;omega
   have HPL:=Lib.hid hpl;have HF:=Lib.hid hf;clear hpl hf;go_enter Tryz.func47,Tryz.ntmps47
   go_wp2_with fail
   rw [←HW.out];refine HIX.out.mono ?_;rintro e w'⟨rfl,rfl⟩;rw [HPL.out];clear HIX HPL
   go_wp2_with fail
   refine HRI.out.mono ?_;rintro e w1⟨rfl,hb1⟩;obtain⟨p0,p1,p2,p3,hs1⟩:=box_keep e0 e1 e2 e3 (by omega) hb1;have hb01:=hb.trans (hb1.mono hb.size);clear HRI e0 e1 e2 e3 hb hb1;cases hR:rightB x with
   | false=>
     have HV:Hid (kidV x label= .tuple #[.int .u64 0,.int .i64 0,.bool false]):=Lib.hid (by rw [kidV,HF.out];simp [hR]);clear hR
     go_wp2_with fail
     go_ret3
     exact⟨by rw [HV.out];rfl,hb01⟩
   | true=>
     have hlk:=((rightB_iff x).1 hR).2.2.1;have hi3:i<n3:=by omega
     have hg:x.kids.getD i 0=x.kids[i]'(by omega):=by simp [List.getD,show i<x.kids.length by omega]
     have hv:kidV x label= .tuple #[.int .u64 ((x.kids.getD i 0).toNat:Int),.int .i64 (if x.kids.length≤4 then 4+(i:Int)else 4+(label.toNat:Int)),.bool true]:=by rw [kidV,HF.out];simp [hR]
     rw [hl3,hg]at hv;clear hg;have HV:=Lib.hid hv;clear hv hR
     go_wp2_with fail
     refine(class_any _ _ _ A3 n3 c3 w1 (by omega)).mono ?_;rintro e w2⟨rfl,hb2⟩;obtain⟨q0,q1,q2,q3,hs2⟩:=box_keep p0 p1 p2 p3 hs1 hb2;have hb02:=hb01.trans (hb2.mono hb01.size);clear p0 p1 p2 p3 hb01 hb2;obtain⟨hq,b,off,rfl,_,hc⟩:=(h3.below hb02).at hi3;by_cases h4:n3≤4
     ·rw [if_pos h4]at HV;rw [if_pos h4]
      go_wp2_with fail
      go_ret3
      exact⟨by rw [HV.out];rfl,hb02⟩
     ·rw [if_neg h4]at HV;rw [if_neg h4]
      go_wp2_with fail
      go_ret3
      exact⟨by rw [HV.out];rfl,hb02⟩
end Go.Proofs.YtdjfbnoolfpcnaaGreatDoor
