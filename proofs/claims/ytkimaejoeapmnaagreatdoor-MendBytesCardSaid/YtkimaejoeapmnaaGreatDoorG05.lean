import Derived.Laws.CopyOwn
import Derived.Test.YtkimaejoeapmnaaGreatDoorG04
set_option maxHeartbeats 32000000
set_option maxRecDepth 100000
open Array renaming getElem?_eq_some_iff->AB,getElem?_push->FD,size_modify->OB
open Nat renaming le_refl->Ad,zero_add->Dw,min_eq_left->MN,zero_le->BK,le_trans->Bg
open List renaming getElem?_eq_getElem->Af,take_of_length_le->FK,map_cons->BU,map_nil->Gq,replicate->BB,map_append->Dq,length_map->BH,length_append->AQ,getD->Ur
open Go.World renaming setCell->D6,ownsRow_nil->Fj
open Go.Value renaming ownBlock->Ba,int->Au,oneCell'->Ahk,slice->Ac
open UInt64 renaming ofNat->AA,toNat_ofNat_of_lt'->GK,size->JQ
open Go.Lib renaming hid->Aa
namespace Go.Proofs.YtkimaejoeapmnaaGreatDoor
open Go.RowKit
def CG(w:World)(g:Nat)(e:TypeId)(xs:List Value):Prop:=w.heap[g]? =some (.cells xs.toArray e (0,0))
theorem CG.lt{w:World}{g:Nat}{e:TypeId}{xs:List Value}(h:CG w g e xs):g<w.heap.size:=(AB.1 h).1
theorem CG.cell{w:World}{g:Nat}{e:TypeId}{xs:List Value}(h:CG w g e xs)(i:Nat):w.cell? ⟨g,i,none⟩=xs[i]? :=by
 rw [cell_of_row w g i _ e (0,0) h];simp
theorem CG.p1{w:World}{g:Nat}{e:TypeId}{a0:Value}{l:List Value}(h:CG w g e (a0::l)):w.cell? ⟨g,0,none⟩=some a0:=h.cell 0
theorem CG.p2{w:World}{g:Nat}{e:TypeId}{a0 a1:Value}{l:List Value}(h:CG w g e (a0::a1::l)):w.cell? ⟨g,0,none⟩=some a0/\w.cell? ⟨g,1,none⟩=some a1:=⟨h.cell 0,h.cell 1⟩
theorem CG.p3{w:World}{g:Nat}{e:TypeId}{a0 a1 a2:Value}{l:List Value}(h:CG w g e (a0::a1::a2::l)):w.cell? ⟨g,0,none⟩=some a0/\w.cell? ⟨g,1,none⟩=some a1/\w.cell? ⟨g,2,none⟩=some a2:=⟨h.cell 0,h.cell 1,h.cell 2⟩
theorem FB(w:World)(e:TypeId)(xs:List Value):∃W,W=w.alloc (.cells xs.toArray e)/\Below w.heap.size w W/\CG W w.heap.size e xs:=⟨_,rfl,(Below.refl _ _).alloc (Ad _) _,heap_alloc_new _ _⟩
theorem CG.has{w:World}{g:Nat}{e:TypeId}{xs:List Value}(h:CG w g e xs){i:Nat}(hi:i<xs.length):w.cell? ⟨g,i,none⟩=some xs[i]:=by
 rw [h.cell,Af hi]
theorem CG.frozen{w:World}{g:Nat}{e:TypeId}{xs:List Value}(h:CG w g e xs)(i:Nat):w.frozen? ⟨g,i,none⟩=false:=by
 unfold CG at h;simp [World.frozen?,h]
theorem CG.AZ{w:World}{g:Nat}{e:TypeId}{xs:List Value}(h:CG w g e xs)(i:Nat)(u:Value):CG (w.setCell ⟨g,i,none⟩ u) g e (xs.set i u):=by
 unfold CG at h⊢;simp [D6,Array.getElem?_modify,h]
theorem CG.drew{w:World}{g:Nat}{e:TypeId}{xs:List Value}(h:CG w g e xs):CG w.drew g e xs:=h
theorem CG.below{w w':World}{g B:Nat}{e:TypeId}{xs:List Value}(h:CG w g e xs)(hb:Below B w w')(hg:g<B):CG w' g e xs:=(hb.block g hg).trans h
theorem CG.rd{w:World}{g:Nat}{e:TypeId}{xs:List Value}(h:CG w g e xs):Rd w (some ⟨g,0,none⟩) xs.length xs:=
 ⟨rfl,fun _=>⟨g,0,rfl,h.lt,fun j _=>by rw [Dw,h.cell]⟩⟩
theorem CG.own{w:World}{g B:Nat}{e:TypeId}{xs:List Value}(h:CG w g e xs)(hB:B<=g)(hm:xs.length<=maxLen):w.ownsRow B e 1 (.slice (some ⟨g,0,none⟩) xs.length xs.length) xs.length xs:=
 ⟨by simp,.inr ⟨g,xs.length,xs.toArray,rfl,hB,h,Ad _,hm,by simp,by simp⟩⟩
theorem YD{w:World}{B g n:Nat}{e:TypeId}{xs:List Value}(h:w.ownsRow B e 1 (.slice (some ⟨g,0,none⟩) n n) n xs):CG w g e xs:=by
 rcases h.2 with⟨h',_⟩| ⟨g',cap,cur,hv,_,hg,_,_,hcs,htake⟩
 ·cases h'
 ·simp only [Value.slice.injEq,Option.some.injEq,Addr.mk.injEq,and_true,true_and]at hv;obtain⟨rfl,rfl⟩:=hv;unfold CG;rw [hg];congr 2;rw [<-htake,FK (by simp [hcs])]
theorem OJ{W W':World}{g:Nat}{a b c d:Value}(e0:W.cell? ⟨g,0,none⟩=some a)(e1:W.cell? ⟨g,1,none⟩=some b)(e2:W.cell? ⟨g,2,none⟩=some c)(e3:W.cell? ⟨g,3,none⟩=some d)
 (hg:g<W.heap.size)(hb:Below W.heap.size W W'):
 W'.cell? ⟨g,0,none⟩=some a/\W'.cell? ⟨g,1,none⟩=some b/\W'.cell? ⟨g,2,none⟩=some c/\W'.cell? ⟨g,3,none⟩=some d/\g<W'.heap.size:=
 ⟨(hb.cell (p:=⟨g,0,none⟩) hg).trans e0,(hb.cell (p:=⟨g,1,none⟩) hg).trans e1,(hb.cell (p:=⟨g,2,none⟩) hg).trans e2,(hb.cell (p:=⟨g,3,none⟩) hg).trans e3,Nat.lt_of_lt_of_le hg hb.size⟩
theorem Aas{W W':World}{g B:Nat}{a b c d:Value}(e0:W.cell? ⟨g,0,none⟩=some a)(e1:W.cell? ⟨g,1,none⟩=some b)(e2:W.cell? ⟨g,2,none⟩=some c)(e3:W.cell? ⟨g,3,none⟩=some d)
 (hB:g<B)(hb:Below B W W'):
 W'.cell? ⟨g,0,none⟩=some a/\W'.cell? ⟨g,1,none⟩=some b/\W'.cell? ⟨g,2,none⟩=some c/\W'.cell? ⟨g,3,none⟩=some d/\True:=
 ⟨(hb.cell (p:=⟨g,0,none⟩) hB).trans e0,(hb.cell (p:=⟨g,1,none⟩) hB).trans e1,(hb.cell (p:=⟨g,2,none⟩) hB).trans e2,(hb.cell (p:=⟨g,3,none⟩) hB).trans e3,trivial⟩
theorem PL{W:World}{g g':Nat}{a b c d:Value}(e0:W.cell? ⟨g,0,none⟩=some a)(e1:W.cell? ⟨g,1,none⟩=some b)(e2:W.cell? ⟨g,2,none⟩=some c)(e3:W.cell? ⟨g,3,none⟩=some d)
 (hg:g<W.heap.size)(hne:g≠g')(i:Nat)(u:Value):
 (W.setCell ⟨g',i,none⟩ u).cell? ⟨g,0,none⟩=some a/\(W.setCell ⟨g',i,none⟩ u).cell? ⟨g,1,none⟩=some b/\(W.setCell ⟨g',i,none⟩ u).cell? ⟨g,2,none⟩=some c/\(W.setCell ⟨g',i,none⟩ u).cell? ⟨g,3,none⟩=some d/\g<(W.setCell ⟨g',i,none⟩ u).heap.size:=by
 have key:∀j,(W.setCell ⟨g',i,none⟩ u).cell? ⟨g,j,none⟩=W.cell? ⟨g,j,none⟩:=fun j=>
  World.cell?_of_block (w:=W) (a:=⟨g,j,none⟩) (Below.heap_setCell W ⟨g',i,none⟩ u g hne)
 exact⟨(key 0).trans e0,(key 1).trans e1,(key 2).trans e2,(key 3).trans e3,by simpa [D6]using hg⟩
theorem Aat{w:World}{A:Option Addr}{n:Nat}{l:List UInt64}(h:Ws w A n l){dp:Option Addr}{g off:Nat}(hd:dp=some ⟨g,off,none⟩:=by rfl):
 0<(l.map wv).length->dp=some ⟨g,off,none⟩/\∃ad,A=some ad/\∀j v,(l.map wv)[j]? =some v->w.cell? (ad.add j)=some v:=by
 intro h0;obtain⟨b,o,rfl,_,hc⟩:=h.2 (by have:=h.1;omega);refine⟨hd,_,rfl,fun j v hv=> ?_⟩;rw [Addr.add_lit,hc j (by have:=(List.getElem?_eq_some_iff.1 hv).1;have:=h.1;omega),hv]
def Kept(w w':World)(row:Option Nat):Prop:=w.heap.size<=w'.heap.size/\∀k,k<w.heap.size->some k≠row->w'.heap[k]? =w.heap[k]?
theorem Ny{w w':World}{base:Nat}{e:TypeId}{v:Value}{n:Nat}{xs:List Value}{row:Option Nat}(h:w.ownsRow base e 1 v n xs)(hk:Kept w w' row)(hne:∀g,v.ownBlock=some g->row≠some g):w'.ownsRow base e 1 v n xs:=by
 refine⟨h.1,?_⟩;rcases h.2 with h| ⟨g,cap,cur,h1,h2,h3,h4⟩
 ·exact .inl h
 ·exact .inr ⟨g,cap,cur,h1,h2,by
  rw [hk.2 g (AB.1 h3).1 (fun e=>hne g (by rw [h1];rfl) e.symm)];exact h3,h4⟩
theorem Nj{w:World}{b1 b2:Nat}{e1 e2:TypeId}{v1 v2:Value}{n1 n2:Nat}{xs1 xs2:List Value}(h1:w.ownsRow b1 e1 1 v1 n1 xs1)(h2:w.ownsRow b2 e2 1 v2 n2 xs2)(hne:e1≠e2):
 ∀g,v1.ownBlock=some g->v2.ownBlock≠some g:=by
 intro g hg hg2;rcases h1.2 with⟨rfl,_⟩| ⟨g1,cap1,uh,rfl,_,hh1,_⟩
 ·simp [Ba]at hg
 ·rcases h2.2 with⟨rfl,_⟩| ⟨g2,cap2,X5,rfl,_,hh2,_⟩
  ·simp [Ba]at hg2
  ·simp [Ba]at hg hg2;subst hg hg2;rw [hh1]at hh2;injection hh2 with hh2
   injection hh2 with _ ht
   exact hne ht
theorem lL{P:Program}{t e:TypeId}{z:Value}{bytes:Nat}(T:LK P t e z bytes)(ty:TypeId){w wr:World}{base:Nat}{v:Value}{n:Nat}{xs news:List Value}
 (hown:wr.ownsRow base e 1 v n xs)(hw:w.heap=wr.heap.push (.cells news.toArray e))(hos:w.os=wr.os)(htape:w.tape=wr.tape)(hout:w.output=wr.output)
 (h1:∀u∈news,u.oneCell'=true)(hm:n+news.length<=1000000000)(hby:bytes<=64)(hbase:base<=wr.heap.size)(m c:Nat)(hmn:m=news.length):
 ∃v' w',(Builtin.append_ #[t,t] ty #[v,.slice (some ⟨wr.heap.size,0,none⟩) m c]).run P w= .ok v' w'/\w'.ownsRow base e 1 v' (n+m) (xs++news)/\Below base wr w'/\Kept wr w' v.ownBlock:=by
 subst hmn;obtain⟨i,hi,hz0,hz1,hz2⟩:=info_parts T.hi;have hb1:Below wr.heap.size wr w:=⟨hos,htape,hout,by rw [hw];simp,fun k hk=>by rw [hw,FD,if_neg (by omega)]⟩;have hown':w.ownsRow base e 1 v n xs:=by
  refine⟨hown.1,?_⟩;rcases hown.2 with h| ⟨g,cap,cur,h1,h2,h3,h4⟩
  ·exact .inl h
  ·exact .inr ⟨g,cap,cur,h1,h2,by rw [hb1.block g (AB.1 h3).1];exact h3,h4⟩
 have hcells:∀j u,news[j]? =some u->w.cell? ((⟨wr.heap.size,0,none⟩:Addr).add j)=some u:=by
  intro j u hu;rw [show(⟨wr.heap.size,0,none⟩:Addr).add j=⟨wr.heap.size,0+j,none⟩from Addr.add_lit _ _ _];rw [cell_of_row w wr.heap.size (0+j) news.toArray e (0,0) (by rw [hw,FD,if_pos rfl])];simpa using hu
 have hmul:(n+news.length)*bytes<=1000000000*64:=Nat.mul_le_mul hm hby;obtain⟨v',w',hrun,h2,h3,_⟩:=run_append_own (P:=P) w base t ty e i z 1 bytes T.ht hi hz0 hz1 hz2 T.hz (by decide) v n xs hown' _ news.length c news (by simp) hcells h1
  (by unfold maxLen;omega) (by omega) (by rw [hw];simp;omega)
 refine⟨v',w',hrun,h2,(hb1.mono hbase).trans ?_,?_,?_⟩
 ·exact(Below.refl _ _).grown h3 (by rw [hw];simp;omega) (fun k hk=>(hown'.lt k hk).1)
 ·have:=h3.size;rw [hw]at this;simp at this;omega
 ·intro k hk hkr;rw [h3.block k (by rw [hw];simp;omega) hkr,hb1.block k hk]
theorem Iz{P:Program}{ops:Array Oper}{rest:List Oper}{o:Oper}{a:Act}{w:World}{Q:Exit->Act->World->Prop}(hgd:o.guard=none)(s x:Operand)(t:TypeId)
 (ho:o.op= .call {callee:= .builtin .append,args:= #[s,x],argTypes:= #[t,t]}){e:TypeId}{z:Value}{bytes:Nat}(T:LK P t e z bytes)
 (wr:World)(base:Nat)(v:Value)(n:Nat)(xs news:List Value)(hs:a.eval s=v)(hown:wr.ownsRow base e 1 v n xs)(hw:w.heap=wr.heap.push (.cells news.toArray e))
 (hos:w.os=wr.os)(htape:w.tape=wr.tape)(hout:w.output=wr.output)
 (m c:Nat)(hx:a.eval x= .slice (some ⟨wr.heap.size,0,none⟩) m c)(hmn:m=news.length)
 (h1:∀u∈news,u.oneCell'=true)(hm:n+news.length<=1000000000)(hby:bytes<=64)(hbase:base<=wr.heap.size)
 (h:∀v' w',w'.ownsRow base e 1 v' (n+m) (xs++news)->Below base wr w'->Kept wr w' v.ownBlock->wpList P ops Q rest (a.put o.dst v') w'):wpList P ops Q (o::rest) a w:=by
 refine wpList_plain hgd fun K hK=> ?_
 obtain⟨v',w',hrun,h2,h3,h4⟩:=lL T o.type hown hw hos htape hout h1 hm hby hbase m c hmn;unfold Oper.wp execOp;simp only [ho,resolve,invoke,builtin,Sem.run_bind,Sem.run_pure,Result.andThen_ok,List.map_toArray,BU,Gq,hs,hx,hrun];exact hK _ _ (h v' w' h2 h3 h4)
theorem own_below{w w':World}{base:Nat}{e:TypeId}{v:Value}{n:Nat}{xs:List Value}(h:w.ownsRow base e 1 v n xs)(hb:Below w.heap.size w w'):w'.ownsRow base e 1 v n xs:=
 Ny h (row:=none) ⟨hb.size,fun k hk _=>hb.block k hk⟩ (by simp)
theorem EM{w:World}{base base':Nat}{e:TypeId}{v:Value}{n:Nat}{xs:List Value}(h:w.ownsRow base e 1 v n xs)(hb:base'<=base):w.ownsRow base' e 1 v n xs:=by
 refine⟨h.1,?_⟩;rcases h.2 with h| ⟨g,cap,cur,h1,h2,h3⟩
 ·exact .inl h
 ·exact .inr ⟨g,cap,cur,h1,by omega,h3⟩
theorem CB{w:World}{base:Nat}{e:TypeId}{A:Option Addr}{c:Nat}{n:Nat}{xs:List Value}(h:w.ownsRow base e 1 (.slice A n c) n xs):n<=c/\Rd w A n xs:=by
 obtain⟨A',c',e,hc,hr⟩:=CO h;injection e with e1 e2 e3
 subst e1 e3;exact⟨hc,hr⟩
theorem AU{w:World}{base:Nat}{e:TypeId}{v:Value}{n:Nat}{xs:List Value}(h:w.ownsRow base e 1 v n xs){g:Nat}(hg:g<base)(i:Nat)(u:Value):(w.setCell ⟨g,i,none⟩ u).ownsRow base e 1 v n xs:=
 ownsRow_setCell_below h (a:=⟨g,i,none⟩) hg u
theorem Ws.cellAt{w:World}{b off n:Nat}{l:List UInt64}(h:Ws w (some ⟨b,off,none⟩) n l){k:Nat}(hk:k<n)(hl:k<l.length):w.cell? ⟨b,off+k,none⟩=some (.int .u64 (l[k].toNat:Int)):=by
 obtain⟨b',off',e,_,hc⟩:=h.2 (by omega);injection e with e
 injection e with e1 e2 e3
 subst e1 e2;rw [hc k hk];simp [hl,wv]
theorem lM(n:Nat)(h:n<18446744073709551616):wv (AA n)= .int .u64 (n:Int):=by
 rw [wv,GK (by simpa [JQ]using h)]
theorem ui(x:Nd)(h:x.kids.length<=4):(DX x).map wv=splice ((((((BB 8 (0:UInt64)).map wv).set 0 (.int .u64 (1+256*(x.kids.length:Int)))).set 1 (.int .u64 ((Gf x.pre).toNat:Int))).set 2 (.int .u64 (x.val.toNat:Int))).set 3 (.int .u64 ((Gf x.labels).toNat:Int))) 4 (x.kids.map wv):=by
 rw [DX,if_pos h,encS];have e:wv (AA (1+256*x.kids.length))= .int .u64 (1+256*(x.kids.length:Int)):=by rw [lM _ (by omega)];simp
 simp only [splice,Dq,BU,Gq,e,BH,List.map_replicate];obtain⟨r,hr⟩:∃r,r=x.kids.length:=⟨_,rfl⟩;rw [<-hr]at h⊢;have:r=0\/r=1\/r=2\/r=3\/r=4:=by omega
 rcases this with rfl| rfl| rfl| rfl| rfl<;>simp [BB,wv]
theorem Aau(x:Nd)(h:x.kids.length<=1000000):(CP (headB x) (x.labels.take 0) (x.kids.take 0)).map wv=((((BB 32 (0:UInt64)).map wv).set 0 (.int .u64 (2+256*(x.kids.length:Int)))).set 1 (.int .u64 ((Gf x.pre).toNat:Int))).set 2 (.int .u64 (x.val.toNat:Int)):=by
 have e:wv (AA (2+256*x.kids.length))= .int .u64 (2+256*(x.kids.length:Int)):=by rw [lM _ (by omega)];simp
 simp only [List.take_zero,CP,headB,Dq,BU,Gq,e];simp [BB,wv]
theorem lN(x:Nd)(k:Nat)(h1:k<x.labels.length)(h2:k<x.kids.length):
 (CP (headB x) (x.labels.take (k+1)) (x.kids.take (k+1))).map wv=((CP (headB x) (x.labels.take k) (x.kids.take k)).map wv).set (4+x.labels[k].toNat) (.int .u64 (x.kids[k].toNat:Int)):=by
 rw [NV _ _ _ k h1 h2,List.map_set];rfl
theorem Tryz.lQ:(Tryz.prog.info? 28).map (fun i=>(i.zero,i.size,i.bytes))=some (some (.int .u64 0),1,8):=by kernel_rfl
def Ah4(x:Nd)(w:World)(e:Ending)(w':World):Prop:=
 Below w.heap.size w w'/\(if Ci x then∃v,e= .returned (.tuple #[v,.bool true])/\w'.ownsRow w.heap.size 28 1 v (DX x).length ((DX x).map wv)
  else e= .returned (.tuple #[.slice none 0 0,.bool false]))
theorem QR(A1 A2 A3:Option Addr)(n1 c1 n2 c2 n3 c3:Nat)(x:Nd)(w:World)(b1:n1<=1000000)(b2:n2<=1000000)(b3:n3<=1000000)(h1:Bs w A1 n1 x.pre)(h2:Bs w A2 n2 x.labels)(h3:Ws w A3 n3 x.kids):
 Calls Tryz.prog 188 #[.agg #[.slice A1 n1 c1,.int .u64 (x.val.toNat:Int),.slice A2 n2 c2,.slice A3 n3 c3]] w (Ah4 x w):=by
 obtain⟨i0,hi,hz0,hz1,hz2⟩:=info_parts Tryz.lQ;have hl1:=h1.len;have hl2:=h2.len;have hl3:=h3.len;obtain⟨W,hW,e0,e1,e2,e3,hb,hs⟩:=Aea w 212 (.slice A1 n1 c1) (.int .u64 (x.val.toNat:Int)) (.slice A2 n2 c2) (.slice A3 n3 c3);have g1:=h1.below hb;have g2:=h2.below hb;have g3:=h3.below hb;have HW:=Aa hW;clear hW;have aP:=KZ A1 A2 A3 n1 c1 n2 c2 n3 c3 x W b1 b2 b3 g1 g2 g3;have yz:=Aa aP;clear aP;go_enter Tryz.func188,Tryz.ntmps188
 go_wp2_with fail
 rw [<-HW.out];refine yz.out.mono ?_;rintro e W1⟨rfl,hb1⟩;clear yz HW;obtain⟨Aow,Aox,Aoy,Aoz,hs1⟩:=OJ e0 e1 e2 e3 (by omega) hb1;clear e0 e1 e2 e3;have FW:Below w.heap.size w W1:=hb.trans (hb1.mono hb.size);clear hb hb1 hs g1 g2 g3;cases hR:Ci x with
 | false=>
   have HR:=Aa hR;clear hR
   go_wp2_with fail
   go_ret2;exact⟨FW,by rw [HR.out];rfl⟩
 | true=>
   have HR:=Aa hR;clear hR
   go_wp2_with fail
   refine(V7 _ _ _ A3 n3 c3 W1 (by omega)).mono ?_;rintro e W2⟨rfl,hb2⟩;obtain⟨Ah5,Ah6,Ah7,Ah8,hs2⟩:=OJ Aow Aox Aoy Aoz hs1 hb2;clear Aow Aox Aoy Aoz;have Eu:=FW.trans (hb2.mono FW.size);clear FW hb2 hs1;by_cases h4:n3<=4
   ·rw [if_pos h4]
    go_wp2_with fail
    refine(Jf 1 W2).mono ?_;rintro e w'⟨rfl,rfl⟩;rw [show KY 1=8 from rfl]
    go_wp2_with
     (at_make
      refine wpList_make_full _ rfl _ _ 91 rfl w.heap.size 28 i0 (.int .u64 0) 1 Tryz.underlying91 hi hz0 hz1 .i64 .i64 _ _ 8 rfl rfl rfl rfl (by rw [hz2];omega) (by decide) (by exact Eu.size) ?_;intro w3 hown3 hgrow3;have hb3:Below W2.heap.size W2 w3:=(Below.refl _ _).grown hgrow3 (Ad _) (by simp);obtain⟨Ao0,Ao1,Ao2,Ao3,hs3⟩:=OJ Ah5 Ah6 Ah7 Ah8 hs2 hb3;clear Ah5 Ah6 Ah7 Ah8;have Oy:=Eu.trans (hb3.mono Eu.size);have B3:CG w3 W2.heap.size 28 ((BB 8 (0:UInt64)).map wv):=by rw [<-KP];exact YD hown3
      have i0:=B3.has (i:=0) (by simp);have i1:=B3.has (i:=1) (by simp);have i2:=B3.has (i:=2) (by simp);have i3:=B3.has (i:=3) (by simp);have f0:=B3.frozen 0;have f1:=B3.frozen 1;have f2:=B3.frozen 2;have f3:=B3.frozen 3;have hne:w.heap.size≠W2.heap.size:=by omega
      have NY:=Eu.size;clear hown3 hgrow3 hb3 Eu)
    have hx:=(Bo x).1 HR.out;obtain⟨x1,x2,x3,x4,_,_⟩:=hx;have hp1:=U9 A1 n1 c1 x.pre (w3.setCell ⟨W2.heap.size,0,none⟩ (.int .u64 (1+256*(n3:Int)))) (by omega) (h1.below (Oy.setCell (p:=⟨W2.heap.size,0,none⟩) NY _)) x2;have hP1:=U4 x.pre 15 x1 x2;rw [Lt]at hP1;have E1:Hid (((n1+16*EY x.pre:Nat):Int)=((Gf x.pre).toNat:Int)):=Aa (by rw [Gf,hl1,GK (by simp [JQ];omega)]);rw [E1.out]at hp1;have uj:=Aa hp1;have HL2:Hid (n2<=4):=Aa (by omega);clear hp1 x3 hP1;refine uj.out.mono ?_;rintro e w'⟨rfl,rfl⟩;clear uj
    go_wp2_with fail
    have B4:=((B3.AZ 0 (.int .u64 (1+256*(n3:Int)))).AZ 1 (.int .u64 ((Gf x.pre).toNat:Int))).AZ 2 (.int .u64 (x.val.toNat:Int));have YE:=((Oy.setCell (p:=⟨W2.heap.size,0,none⟩) NY (.int .u64 (1+256*(n3:Int)))).setCell (p:=⟨W2.heap.size,1,none⟩) NY (.int .u64 ((Gf x.pre).toNat:Int))).setCell (p:=⟨W2.heap.size,2,none⟩) NY (.int .u64 (x.val.toNat:Int));obtain⟨Ao4,Ao5,Ao6,Ao7,hs3⟩:=PL Ao0 Ao1 Ao2 Ao3 hs3 hne 0 (.int .u64 (1+256*(n3:Int)));clear Ao0 Ao1 Ao2 Ao3;obtain⟨Ao8,Ao9,Apa,Apb,hs3⟩:=PL Ao4 Ao5 Ao6 Ao7 hs3 hne 1 (.int .u64 ((Gf x.pre).toNat:Int));clear Ao4 Ao5 Ao6 Ao7;obtain⟨Apc,Apd,Ape,Apf,hs3⟩:=PL Ao8 Ao9 Apa Apb hs3 hne 2 (.int .u64 (x.val.toNat:Int));clear Ao8 Ao9 Apa Apb;clear i0 i1 i2 i3 f0 f1 f2 f3 Oy B3;generalize(((w3.setCell ⟨W2.heap.size,0,none⟩ (.int .u64 (1+256*(n3:Int)))).setCell ⟨W2.heap.size,1,none⟩ (.int .u64 ((Gf x.pre).toNat:Int))).setCell ⟨W2.heap.size,2,none⟩ (.int .u64 (x.val.toNat:Int)))=W4 at*;have hp2:=U9 A2 n2 c2 x.labels W4 (by have:=HL2.out;omega) (h2.below YE) x4;have hP2:=U4 x.labels 15 (by have:=HL2.out;omega) x4;rw [Lt]at hP2;have E2:Hid (((n2+16*EY x.labels:Nat):Int)=((Gf x.labels).toNat:Int)):=Aa (by rw [Gf,hl2,GK (by have:=HL2.out;simp [JQ];omega)]);rw [E2.out]at hp2;have HP2:=Aa hp2;have i3:=B4.has (i:=3) (by simp);have f3:=B4.frozen 3;clear hp2 hP2;refine HP2.out.mono ?_;rintro e w'⟨rfl,rfl⟩;clear HP2;have B5:=B4.AZ 3 (.int .u64 ((Gf x.labels).toNat:Int));have MS:=YE.setCell (p:=⟨W2.heap.size,3,none⟩) NY (.int .u64 ((Gf x.labels).toNat:Int));have hsl:∀W,(Instr.slice 91 (.slice (some ⟨W2.heap.size,0,none⟩) 8 8) (some (.int .i64 4)) none none).run Tryz.prog W= .ok (.slice (some ⟨W2.heap.size,4,none⟩) 4 4) W:=fun W=>by
     have:=lq Tryz.Je (some ⟨W2.heap.size,0,none⟩) 8 8 .i64 4 (by decide) W;simpa [Uy,Addr.add_lit]using this
    obtain⟨Av7,Av8,Av9,Awa,hs3⟩:=PL Apc Apd Ape Apf hs3 hne 3 (.int .u64 ((Gf x.labels).toNat:Int));clear Apc Apd Ape Apf
    go_wp2_with fail
    clear i3 f3 YE B4;generalize W4.setCell ⟨W2.heap.size,3,none⟩ (.int .u64 ((Gf x.labels).toNat:Int))=W5 at*;have g3:Ws W5.drew A3 n3 x.kids:=h3.below MS.drew
    go_region_law(refine step_copy_splice rfl (.tmp 49) (.tmp 51) 91 91 rfl 28 Tryz.underlying91 (by kernel_rfl) (some ⟨W2.heap.size,4,none⟩) A3 4 4 n3 c3 (by simp [Act.eval]) (by simp [Act.eval]) W2.heap.size 4 _ 28 B5.drew (x.kids.map wv) (by rw [BH,hl3];exact(MN h4).symm) (Aat g3) (by simp [hl3];omega) (P9 _) w.heap.size w MS.drew NY ?_;intro w6 Nz hb6)
    all_goals
     go_wp2;go_ret2;refine⟨hb6,?_⟩;rw [if_pos HR.out];have hB:CG w6 W2.heap.size 28 ((DX x).map wv):=by
      have h:=Nz.out;rw [ui x (by omega)];rw [hl3];exact h
     have hlen:((DX x).map wv).length=8:=by rw [BH,EL,if_pos (by omega)]
     refine⟨_,rfl,?_⟩;have:=hB.own (B:=w.heap.size) NY (by rw [hlen];decide);rw [hlen]at this;rw [show(DX x).length=8 by simpa using hlen];exact this
   ·rw [if_neg h4]
    go_wp2_with fail
    refine(Jf 2 W2).mono ?_;rintro e w'⟨rfl,rfl⟩;rw [show KY 2=32 from rfl]
    go_wp2_with
     (at_make
      refine wpList_make_full _ rfl _ _ 91 rfl w.heap.size 28 i0 (.int .u64 0) 1 Tryz.underlying91 hi hz0 hz1 .i64 .i64 _ _ 32 rfl rfl rfl rfl (by rw [hz2];omega) (by decide) (by exact Eu.size) ?_;intro w3 hown3 hgrow3;have hb3:Below W2.heap.size W2 w3:=(Below.refl _ _).grown hgrow3 (Ad _) (by simp);obtain⟨Apg,Aph,Api,Apj,hs3⟩:=OJ Ah5 Ah6 Ah7 Ah8 hs2 hb3;clear Ah5 Ah6 Ah7 Ah8;have Oy:=Eu.trans (hb3.mono Eu.size);have B3:CG w3 W2.heap.size 28 ((BB 32 (0:UInt64)).map wv):=by rw [<-KP];exact YD hown3
      have i0:=B3.has (i:=0) (by simp);have i1:=B3.has (i:=1) (by simp);have i2:=B3.has (i:=2) (by simp);have i3:=B3.has (i:=3) (by simp);have f0:=B3.frozen 0;have f1:=B3.frozen 1;have f2:=B3.frozen 2;have f3:=B3.frozen 3;have hne:w.heap.size≠W2.heap.size:=by omega
      have NY:=Eu.size;clear hown3 hgrow3 hb3 Eu)
    have hx:=(Bo x).1 HR.out;obtain⟨x1,x2,x3,x4,_,_⟩:=hx;have hp1:=U9 A1 n1 c1 x.pre (w3.setCell ⟨W2.heap.size,0,none⟩ (.int .u64 (2+256*(n3:Int)))) (by omega) (h1.below (Oy.setCell (p:=⟨W2.heap.size,0,none⟩) NY _)) x2;have hP1:=U4 x.pre 15 x1 x2;rw [Lt]at hP1;have E1:Hid (((n1+16*EY x.pre:Nat):Int)=((Gf x.pre).toNat:Int)):=Aa (by rw [Gf,hl1,GK (by simp [JQ];omega)]);rw [E1.out]at hp1;have uj:=Aa hp1;clear hp1 hP1;refine uj.out.mono ?_;rintro e w'⟨rfl,rfl⟩;clear uj
    go_wp2_with fail
    have B4:=((B3.AZ 0 (.int .u64 (2+256*(n3:Int)))).AZ 1 (.int .u64 ((Gf x.pre).toNat:Int))).AZ 2 (.int .u64 (x.val.toNat:Int));have YE:=((Oy.setCell (p:=⟨W2.heap.size,0,none⟩) NY (.int .u64 (2+256*(n3:Int)))).setCell (p:=⟨W2.heap.size,1,none⟩) NY (.int .u64 ((Gf x.pre).toNat:Int))).setCell (p:=⟨W2.heap.size,2,none⟩) NY (.int .u64 (x.val.toNat:Int));obtain⟨Apk,Apl,Apm,Apn,hs3⟩:=PL Apg Aph Api Apj hs3 hne 0 (.int .u64 (2+256*(n3:Int)));clear Apg Aph Api Apj;obtain⟨Akp,Akq,Akr,Aks,hs3⟩:=PL Apk Apl Apm Apn hs3 hne 1 (.int .u64 ((Gf x.pre).toNat:Int));clear Apk Apl Apm Apn;obtain⟨Akt,Aku,Akv,Akw,hs3⟩:=PL Akp Akq Akr Aks hs3 hne 2 (.int .u64 (x.val.toNat:Int));clear Akp Akq Akr Aks;clear i0 i1 i2 i3 f0 f1 f2 f3 Oy B3;generalize(((w3.setCell ⟨W2.heap.size,0,none⟩ (.int .u64 (2+256*(n3:Int)))).setCell ⟨W2.heap.size,1,none⟩ (.int .u64 ((Gf x.pre).toNat:Int))).setCell ⟨W2.heap.size,2,none⟩ (.int .u64 (x.val.toNat:Int)))=W4 at*;have hrow:CG W4 W2.heap.size 28 ((CP (headB x) (x.labels.take 0) (x.kids.take 0)).map wv):=by
     rw [Aau x (by omega),hl3];exact B4
    clear B4;have Atg:n2=n3:=by omega
    have HX4:=Aa x4;clear x4 x3 x2;subst Atg
    go_wp2_with fail
    go_loopw [57](fun i wr=>∃k:Nat,k<=n2/\i= .int .i64 k/\CG wr W2.heap.size 28 ((CP (headB x) (x.labels.take k) (x.kids.take k)).map wv)/\Below W2.heap.size W4 wr)(fun i _=>n2- (intOf i).toNat)
    case atStart=>exact⟨0,BK _,rfl,hrow,Below.refl _ _⟩
    case round=>
     obtain⟨k,hk,rfl,hrow,hbr⟩:=hrel;obtain⟨Apo,Apq,Apr,Aps,hs3⟩:=Aas Akt Aku Akv Akw hs2 hbr;clear Akt Aku Akv Akw;have Alr:Below w.heap.size w wr:=YE.trans (hbr.mono NY);by_cases hlt:k<n2
     ·obtain⟨hq2,p2,Ah1,rfl,_,hc2⟩:=(h2.below Alr).at hlt;obtain⟨hq3,p3,Apt,rfl,_,hc3⟩:=(h3.below Alr).at hlt;have h16:=XM HX4.out hq2;have hlen:((CP (headB x) (x.labels.take k) (x.kids.take k)).map wv).length=32:=by simp [Nv,headB]
      have ic:=hrow.has (i:=4+x.labels[k].toNat) (by rw [hlen];omega);have fc:=hrow.frozen (4+x.labels[k].toNat);have hrow2:=hrow.AZ (4+x.labels[k].toNat) (.int .u64 (x.kids[k].toNat:Int));rw [<-lN x k hq2 hq3]at hrow2;have HR2:=Aa hrow2;have HB2:=Aa (hbr.setCell (p:=⟨W2.heap.size,4+x.labels[k].toNat,none⟩) (Ad _) (.int .u64 (x.kids[k].toNat:Int)));clear hrow hrow2 hbr;go_wp2;go_roundw
      case rel=>exact⟨k+1,by omega,by go_num,HR2.out,HB2.out⟩
      case measure=>simp [intOf];omega
     ·have hkn:k=n2:=by omega
      subst hkn;have hfin:(CP (headB x) (x.labels.take k) (x.kids.take k)).map wv=(DX x).map wv:=by
       rw [DX,if_neg (by omega),QP,FK (by omega),FK (by omega)]
      rw [hfin]at hrow;have hlen:((DX x).map wv).length=32:=by rw [BH,EL,if_neg (by omega)]
      have HO:=Aa (hrow.own (B:=w.heap.size) NY (by rw [hlen];decide));have HLE:=Aa hlen;clear hrow hbr hfin hlen Apo Apq Apr Aps;go_wp2;go_ret2;refine⟨Alr,?_⟩;rw [if_pos HR.out];refine⟨_,rfl,?_⟩;have:=HO.out;rw [HLE.out]at this;rw [show(DX x).length=32 by simpa using HLE.out];exact this
theorem PM (A B : Option Addr) (n m c d : Nat) (a b : List UInt64) (w : World) (hn : n <= 4294967296) (_hm : m <= 4294967296) (ha : Ws w A n a) (hb : Ws w B m b) :
    Calls Tryz.prog 35 #[.slice A n c, .slice B m d] w fun e w' => e = .returned (.bool (decide (a = b))) /\ Dr w w' := by
  have hla := ha.len
  have hlb := hb.len
  by_cases hnm : n = m
  · subst hnm
    have t1 : ((n : Int) != (n : Int)) = false := by simp
    go_enter Tryz.func35, Tryz.ntmps35
    go_wp2
    go_loopw [13] (fun i wr => ∃ k : Nat, k <= n /\ i = .int .i64 k /\ (∀ j (h1 : j < a.length) (h2 : j < b.length), j < k -> a[j] = b[j]) /\ Dr w wr) (fun i _ => n - (intOf i).toNat)
    case atStart => exact ⟨0, BK _, rfl, fun j _ _ h => absurd h (by omega), Dr.refl _⟩
    case round =>
      obtain ⟨k, hk, rfl, heq, q, rfl⟩ := hrel
      by_cases hlt : k < n
      · obtain ⟨hq, p, off, rfl, hp, hc⟩ := ha.at hlt
        obtain ⟨hq2, p2, Ah1, rfl, hp2, hc2⟩ := hb.at hlt
        by_cases he : a[k] = b[k]
        · have t2 : (((a[k].toNat : Int)) != (b[k].toNat : Int)) = false := by simp [he]
          have HE : Hid (∀ j (h1 : j < a.length) (h2 : j < b.length), j < k + 1 -> a[j] = b[j]) := Aa fun j h1 h2 hj => by
            by_cases e : j = k
            · subst e; exact he
            · exact heq j h1 h2 (by omega)
          clear heq he
          go_wp2
          go_quiet (fail)
          go_wp2
          go_roundw
          case rel => exact ⟨k + 1, by omega, by go_num, HE.out, by first | exact Dr.one _ _ | exact Dr.two _ _ _⟩
          case measure => simp [intOf]; omega
        · have t2 : (((a[k].toNat : Int)) != (b[k].toNat : Int)) = true := by
            rw [bne_iff_ne]; intro e; exact he (UInt64.toNat_inj.1 (by omega))
          have HD : Hid (decide (a = b) = false) := Aa (by rw [decide_eq_false_iff_not]; intro e; subst e; exact he rfl)
          clear heq he
          go_wp2
          go_quiet (fail)
          go_wp2
          go_ret
          exact ⟨by rw [HD.out]; rfl, by first | exact Dr.one _ _ | exact Dr.two _ _ _⟩
      · have hkn : k = n := by omega
        subst hkn
        have HD : Hid (decide (a = b) = true) := Aa (by
          rw [decide_eq_true_iff]
          apply List.ext_getElem (by omega)
          intro j h1 h2
          exact heq j h1 h2 (by omega))
        clear heq
        go_wp2
        go_ret
        exact ⟨by rw [HD.out]; rfl, Dr.one _ _⟩
  · have t1 : ((n : Int) != (m : Int)) = true := by simp; omega
    have HD : Hid (decide (a = b) = false) := Aa (by rw [decide_eq_false_iff_not]; intro e; subst e; omega)
    go_enter Tryz.func35, Tryz.ntmps35
    go_wp2
    go_ret
    exact ⟨by rw [HD.out]; rfl, Dr.refl _⟩
def y8(lb:List UInt8)(ks:List UInt64)(w:World)(e:Ending)(w':World):Prop:=
 Below w.heap.size w w'/\∃A1 c1 A2 c2,e= .returned (.tuple #[.slice A1 lb.length c1,.slice A2 ks.length c2])/\w'.ownsRow w.heap.size 5 1 (.slice A1 lb.length c1) lb.length (lb.map bv)/\w'.ownsRow w.heap.size 28 1 (.slice A2 ks.length c2) ks.length (ks.map wv)
theorem Ws.sub{w:World}{A:Option Addr}{n:Nat}{l:List UInt64}(h:Ws w A n l){c lo hi:Nat}(h1:lo<=hi)(h2:hi<=n)(hc:n<=c):Ws w (Uy A c lo) (hi-lo) ((l.drop lo).take (hi-lo)):=by
 have:=Rd.sub h h1 h2 hc
 rwa [<-List.map_drop,<-List.map_take]at this
theorem Aav(A:Option Addr)(c:Nat)(l:List UInt64)(w:World)(hc:8<=c)(h:Ws w A 8 l)(u:UInt64)(hu:l[3]? =some u):
 Calls Tryz.prog 196 #[.slice A 8 c] w (y8 (IM u.toNat (l.drop 4)).1 (IM u.toNat (l.drop 4)).2 w):=by
 have hlen:=h.len;obtain⟨hq,b,off,rfl,hb,hc3⟩:=h.at (show 3<8 by decide);have hu':l[3]=u:=by rw [Af hq]at hu;injection hu
 rw [hu']at hc3;have hun:=YC u.toNat w (by have:=u.toNat_lt;simpa [JQ]using this);have HU:=Aa hun;clear hun hu';go_enter Tryz.func196,Tryz.ntmps196
 go_wp2_with fail
 refine HU.out.mono ?_;rintro e w1⟨hb1,hu1⟩;clear HU hc3;have hm:=Nat.mod_lt u.toNat (show 0<16 by decide);by_cases hz:u.toNat/16/16^(u.toNat%16)=0
 ·rw [if_pos hz]at hu1;obtain⟨v1,rfl,ho1⟩:=hu1;obtain⟨A1,c1,rfl,hc1,hr1⟩:=CO ho1;by_cases h4:u.toNat%16<=4
  ·have Jo:IM u.toNat (l.drop 4)=(digits (u.toNat%16) (u.toNat/16),(l.drop 4).take (u.toNat%16)):=by rw [IM,if_pos ⟨hz,h4⟩]
   have HC:=Aa Jo;have HR1:Hid (w1.ownsRow w.heap.size 5 1 (.slice A1 (u.toNat%16) c1) (u.toNat%16) ((digits (u.toNat%16) (u.toNat/16)).map bv)):=Aa ho1;obtain⟨m,hmm⟩:∃m,m=u.toNat%16:=⟨_,rfl⟩;have hw1:=h.below hb1;have hsub:=Ws.sub hw1 (c:=c) (lo:=4) (hi:=4+m) (by omega) (by omega) hc;rw [<-hmm]at hc1 h4⊢;have HMM:=Aa hmm;have hsl:=yl Tryz.Je (some ⟨b,off,none⟩) 8 c .i64 .i64 4 (4+m) (by omega) (by omega);rw [show 4+m-4=m by omega]at hsl hsub;have hcl:=YB (Uy (some ⟨b,off,none⟩) c 4) m (c-4) _ w1 (by omega) hsub;have HCL:=Aa hcl;have e4:((4:Nat):Int)=4:=rfl;have e4m:((4+m:Nat):Int)=4+(m:Int):=by omega
   simp only [e4,e4m]at hsl;have d4:decide (4<(m:Int))=false:=by simp;omega
   clear hz Jo ho1 hr1 hmm hcl hsub e4 e4m
   go_wp2_with fail
   refine HCL.out.mono ?_;rintro e w2⟨v2,rfl,ho2,hb2⟩;obtain⟨A2,c2,rfl,hc2,hr2⟩:=CO ho2;have QB:=Aa (EM ho2 hb1.size);clear HCL ho2 hr2 hc2
   go_wp2_with fail
   go_ret2;have hl1:((l.drop 4).take m).length=m:=by simp [hlen];omega
   refine⟨hb1.trans (hb2.mono hb1.size),?_⟩;rw [HC.out]
   dsimp only
   rw [<-HMM.out,digits_length,hl1];refine⟨A1,c1,A2,c2,rfl,?_,QB.out⟩;have:=own_below HR1.out hb2;rw [<-HMM.out]at this;exact this
  ·have Jo:IM u.toNat (l.drop 4)=([],[]):=by rw [IM,if_neg (fun e=>h4 e.2)]
   have HC:=Aa Jo;have d4:decide (4<((u.toNat%16:Nat):Int))=true:=by simp;omega
   generalize u.toNat%16=m at*;clear hz Jo
   go_wp2_with fail
   go_ret2;refine⟨hb1,?_⟩;rw [HC.out];exact⟨none,0,none,0,rfl,Fj _ _ _ _,Fj _ _ _ _⟩
 ·rw [if_neg hz]at hu1;subst hu1;have Jo:IM u.toNat (l.drop 4)=([],[]):=by rw [IM,if_neg (fun e=>hz e.1)]
  have HC:=Aa Jo;clear hz Jo
  go_wp2_with fail
  go_ret2;refine⟨hb1,?_⟩;rw [HC.out];exact⟨none,0,none,0,rfl,Fj _ _ _ _,Fj _ _ _ _⟩
theorem Ah9(A:Option Addr)(c:Nat)(l:List UInt64)(w:World)(hc:32<=c)(h:Ws w A 32 l):
 Calls Tryz.prog 197 #[.slice A 32 c] w (y8 (Jn 0 ((l.drop 4).take 16)) (JS ((l.drop 4).take 16)) w):=by
 have hlen:=h.len;obtain⟨_,b,off,rfl,_,_⟩:=h.at (show 0<32 by decide);have hsl:=yl Tryz.Je (some ⟨b,off,none⟩) 32 c .i64 .i64 4 20 (by omega) (by omega);have hsb:Uy (some ⟨b,off,none⟩) c 4=some ⟨b,off+4,none⟩:=by rw [Uy,if_neg (by omega)];simp [Addr.add_lit]
 rw [hsb]at hsl;have e4:((4:Nat):Int)=4:=rfl;have e20:((20:Nat):Int)=20:=rfl;simp only [e4,e20]at hsl;have ht:Ws w (some ⟨b,off+4,none⟩) 16 ((l.drop 4).take 16):=by
  have:=Ws.sub h (c:=c) (lo:=4) (hi:=20) (by omega) (by omega) hc
  rwa [hsb]at this
 clear hsb e4 e20 hlen;generalize(l.drop 4).take 16=t at*;have htl:=ht.len;go_enter Tryz.func197,Tryz.ntmps197;go_wp2
 go_loopw [4,5,11](fun v4 v5 i wr=>∃k:Nat,k<=16/\i= .int .i64 k/\wr.ownsRow w.heap.size 5 1 v4 (Jn 0 (t.take k)).length ((Jn 0 (t.take k)).map bv)/\wr.ownsRow w.heap.size 28 1 v5 (JS (t.take k)).length ((JS (t.take k)).map wv)/\Below w.heap.size w wr)(fun _ _ i _=>16- (intOf i).toNat)
 case atStart=>exact⟨0,BK _,rfl,Fj _ _ _ _,Fj _ _ _ _,Below.refl _ _⟩
 case round=>
  obtain⟨k,hk,rfl,aQ,V8,hbr⟩:=hrel;have hsz:=hbr.size;by_cases hlt:k<16
  ·have htr:=ht.below hbr;obtain⟨hq,b',off',e',_,hcc⟩:=htr.at hlt;injection e' with e'
   injection e' with e1 e2 e3
   subst e1 e2;have hsn:t.take (k+1)=t.take k++[t[k]]:=List.take_succ_eq_append_getElem hq;have hcB:=Yz 0 (t.take k) t[k];have hcK:=tu (t.take k) t[k];rw [<-hsn,List.length_take,MN (by omega),Dw]at hcB;rw [<-hsn]at hcK;have hlK:(JS (t.take k)).length<=16:=by have:=Y0 (t.take k);simp at this;omega
   have hlB:(Jn 0 (t.take k)).length<=16:=by rw [NW];exact hlK
   by_cases h0:t[k].toNat=0
   ·rw [if_pos h0,List.append_nil]at hcB hcK;have t1:((t[k].toNat:Int)!=0)=false:=by simp [h0]
    have HB:=Aa hcB;have HK:=Aa hcK;have ak:=Aa aQ;have cO:=Aa V8;clear hcB hcK h0 aQ V8 htr e3 hsn;go_wp2;go_roundw
    case rel=>exact⟨k+1,by omega,by go_num,by rw [HB.out];exact ak.out,by rw [HK.out];exact cO.out,hbr⟩
    case measure=>simp [intOf];omega
   ·rw [if_neg h0]at hcB hcK;have t1:((t[k].toNat:Int)!=0)=true:=by simp;omega
    have HB:=Aa hcB;have HK:=Aa hcK;have hu8:Au .u8 (k:Int)=bv (UInt8.ofNat k):=by simp only [bv,UInt8.toNat_ofNat'];congr 1;omega
    have HU8:=Aa hu8;have hap:=Nj aQ V8 (by decide);have hap':∀g,u5.ownBlock=some g->u4.ownBlock≠some g:=fun g h5 h4=>hap g h4 h5
    generalize hnB:(Jn 0 (t.take k)).length=nB at*;generalize hnK:(JS (t.take k)).length=nK at*;clear hcB hcK h0 htr e3 hsn hu8 hap
    go_wp2_with(first
     | (at_builtin
        refine Iz rfl (.tmp 18) (.tmp 21) 22 rfl Tryz.Gi wr w.heap.size u4 nB ((Jn 0 (t.take k)).map bv) [.int .u8 (k:Int)] rfl aQ rfl rfl rfl rfl 1 1 rfl rfl (by simp [Ahk]) (by simp;omega) (by decide) hsz ?_;intro v4' w4 Apu hb4 hk4;have Apv:=Ny V8 hk4 hap';have lS:w.heap.size<=w4.heap.size:=Bg hsz hb4.size)
     | (at_builtin
        refine Iz rfl (.tmp 23) (.tmp 25) 91 rfl Tryz.Je w4 w.heap.size u5 nK ((JS (t.take k)).map wv) [.int .u64 (t[k].toNat:Int)] rfl Apv rfl rfl rfl rfl 1 1 rfl rfl (by simp [Ahk]) (by simp;omega) (by decide) lS ?_;intro v5' w5 Apw hb5 hk5;have Akx:=Ny Apu hk5 (Nj Apu Apv (by decide))))
    go_roundw
    case rel=>
     refine⟨k+1,by omega,by go_num,?_,?_,hbr.trans (hb4.trans hb5)⟩
     ·rw [HB.out,AQ,hnB,Dq];rw [HU8.out]at Akx;exact Akx
     ·rw [HK.out,AQ,hnK,Dq];exact Apw
    case measure=>simp [intOf];omega
  ·have hkn:k=16:=by omega
   subst hkn;rw [FK (by omega)]at aQ V8;obtain⟨A1,c1,hv4,hc1,hr1⟩:=CO aQ;obtain⟨A2,c2,hv5,hc2,hr2⟩:=CO V8;subst hv4 hv5;have ak:=Aa aQ;have cO:=Aa V8;clear aQ V8;go_wp2;go_ret2;exact⟨hbr,A1,c1,A2,c2,rfl,ak.out,cO.out⟩
theorem TL{w:World}{base base' size n:Nat}{e:TypeId}{v:Value}{xs:List Value}(h:w.ownsRow base e size v n xs)(hb:base'<=base):w.ownsRow base' e size v n xs:=
 ⟨h.1,h.2.elim Or.inl (fun⟨g,cap,cur,hv,hg,r⟩=>Or.inr ⟨g,cap,cur,hv,Bg hb hg,r⟩)⟩
def XO(l:List UInt64)(w:World)(e:Ending)(w':World):Prop:=
 Below w.heap.size w w'/\(if IG l then∃A1 c1 A2 c2 A3 c3,e= .returned (.tuple #[.agg #[.slice A1 (ET l).pre.length c1,.int .u64 ((ET l).val.toNat:Int),.slice A2 (ET l).labels.length c2,.slice A3 (ET l).kids.length c3],.bool true])/\
  (ET l).pre.length<=c1/\(ET l).labels.length<=c2/\(ET l).kids.length<=c3/\Bs w' A1 (ET l).pre.length (ET l).pre/\Bs w' A2 (ET l).labels.length (ET l).labels/\Ws w' A3 (ET l).kids.length (ET l).kids/\w'.ownsRow w.heap.size 5 1 (.slice A1 (ET l).pre.length c1) (ET l).pre.length ((ET l).pre.map bv)/\w'.ownsRow w.heap.size 5 1 (.slice A2 (ET l).labels.length c2) (ET l).labels.length ((ET l).labels.map bv)/\w'.ownsRow w.heap.size 28 1 (.slice A3 (ET l).kids.length c3) (ET l).kids.length ((ET l).kids.map wv)
  else e= .returned (.tuple #[.agg #[.slice none 0 0,.int .u64 0,.slice none 0 0,.slice none 0 0],.bool false]))
theorem WS(u:Nat)(w:World)(hu:u<18446744073709551616):
 Calls Tryz.prog 198 #[.int .u64 (u:Int)] w fun e w'=>Below w.heap.size w w'/\∃A c b,e= .returned (.tuple #[.slice A (Ed u).length c,.bool b])/\w'.ownsRow w.heap.size 5 1 (.slice A (Ed u).length c) (Ed u).length ((Ed u).map bv):=by
 refine(YC u w hu).mono ?_;rintro e w'⟨hb,h⟩;refine⟨hb,?_⟩;by_cases hz:u/16/16^(u%16)=0
 ·rw [if_pos hz]at h;obtain⟨v,rfl,ho⟩:=h;obtain⟨A,c,rfl,hc,hr⟩:=CO ho;have e1:Ed u=digits (u%16) (u/16):=by rw [Ed,if_pos hz]
  rw [e1,digits_length];exact⟨A,c,true,rfl,ho⟩
 ·rw [if_neg hz]at h;subst h;have e1:Ed u=[]:=by rw [Ed,if_neg hz]
  rw [e1];exact⟨none,0,false,rfl,Fj _ _ _ _⟩
theorem blk4{w:World}{g:Nat}{e:TypeId}{a b c d:Value}(h:CG w g e [a,b,c,d]):
 w.cell? ⟨g,0,none⟩=some a/\w.cell? ⟨g,1,none⟩=some b/\w.cell? ⟨g,2,none⟩=some c/\w.cell? ⟨g,3,none⟩=some d/\
 w.frozen? ⟨g,0,none⟩=false/\w.frozen? ⟨g,1,none⟩=false/\w.frozen? ⟨g,2,none⟩=false/\w.frozen? ⟨g,3,none⟩=false:=
 ⟨h.cell 0,h.cell 1,h.cell 2,h.cell 3,h.frozen 0,h.frozen 1,h.frozen 2,h.frozen 3⟩
theorem CG.far{w:World}{g g':Nat}{e:TypeId}{xs:List Value}(h:CG w g e xs)(hne:g≠g')(i:Nat)(u:Value):CG (w.setCell ⟨g',i,none⟩ u) g e xs:=
 (Below.heap_setCell w ⟨g',i,none⟩ u g hne).trans h
theorem V9(w:World)(t:TypeId)(z:Value)(y:Value):∃W,W=(w.alloc (.cells #[z,y,z,z] t)).alloc (.cells #[z,y,z,z] t)/\CG W w.heap.size t [z,y,z,z]/\CG W (w.heap.size+1) t [z,y,z,z]/\
 Below w.heap.size w W/\W.heap.size=w.heap.size+2:=by
 refine⟨_,rfl,?_,?_,((Below.refl _ _).alloc (Ad _) _).alloc (by simp) _,by simp⟩
 ·have:CG (w.alloc (.cells #[z,y,z,z] t)) w.heap.size t [z,y,z,z]:=heap_alloc_new w _;exact(Below.heap_alloc _ _ _ (by simp)).trans this
 ·have:CG ((w.alloc (.cells #[z,y,z,z] t)).alloc (.cells #[z,y,z,z] t)) (w.alloc (.cells #[z,y,z,z] t)).heap.size t [z,y,z,z]:=heap_alloc_new _ _;simpa using this
theorem Aia(A:Option Addr)(c:Nat)(l:List UInt64)(w:World)(hc:8<=c)(h:Ws w A 8 l):
 Calls Tryz.prog 181 #[.slice A 8 c] w (XO l w):=by
 have hlen:=h.len;obtain⟨hq1,b,off,rfl,hb0,hc1⟩:=h.at (show 1<8 by decide);go_enter Tryz.func181,Tryz.ntmps181
 go_wp2_with(go_at_call 180;refine(Jf 1 _).mono ?_;rintro e w'⟨rfl,rfl⟩;rw [show KY 1=8 from rfl])
 obtain⟨W,hW,B1,B2,hbW,hsW⟩:=V9 w 212 (.slice none 0 0) (.int .u64 0);rw [<-hW];clear hW;have q3:3<l.length:=by omega
 have hsm:=Aav (some ⟨b,off,none⟩) c l W hc (h.below hbW) l[3] (Af q3);have HSM:=Aa hsm;clear hsm;refine HSM.out.mono ?_;rintro e w1⟨hb1,A2,c2,A3,c3,rfl,r2,r3⟩;have R2:=Aa r2;have R3:=Aa r3;clear r2 r3;clear HSM;replace B1:=B1.below hb1 (by omega);replace B2:=B2.below hb1 (by omega);obtain⟨y0,y1,y2,y3,f0,f1,f2,f3⟩:=blk4 B2;have FW:=hbW.trans (hb1.mono hbW.size);have hx1:w1.cell? ⟨b,off+1,none⟩=some (.int .u64 (l[1].toNat:Int)):=(FW.cell (p:=⟨b,off+1,none⟩) hb0).trans hc1;have hne:b≠w.heap.size+1:=by omega
 go_wp2_with fail
 have Jo:ET l={pre:=Ed l[1].toNat,val:=l[2],labels:=(IM l[3].toNat (l.drop 4)).1,kids:=(IM l[3].toNat (l.drop 4)).2}:=by
  rw [ET,if_pos hlen,Ad6];simp [Ur,show 1<l.length by omega,show 2<l.length by omega,show 3<l.length by omega]
 have hlk2:(IM l[3].toNat (l.drop 4)).1.length<=15:=by unfold IM;split<;>simp [digits_length];omega
 have Apx:(IM l[3].toNat (l.drop 4)).2.length<=15:=by unfold IM;split<;>simp;omega
 have r2:=R2.out;have r3:=R3.out;clear R2 R3;generalize(IM l[3].toNat (l.drop 4)).1=lb at*;generalize(IM l[3].toNat (l.drop 4)).2=ks at*;have hlp:=bW l[1].toNat;have B2':=(B2.AZ 2 (.slice A2 lb.length c2)).AZ 3 (.slice A3 ks.length c3);have B1':=(B1.far (g':=w.heap.size+1) (by omega) 2 (.slice A2 lb.length c2)).far (g':=w.heap.size+1) (by omega) 3 (.slice A3 ks.length c3);have Eu:=(FW.setCell (p:=⟨w.heap.size+1,2,none⟩) (by simp) (.slice A2 lb.length c2)).setCell (p:=⟨w.heap.size+1,3,none⟩) (by simp) (.slice A3 ks.length c3);have r2':=AU (AU r2 (g:=w.heap.size+1) (by omega) 2 (.slice A2 lb.length c2)) (g:=w.heap.size+1) (by omega) 3 (.slice A3 ks.length c3);have r3':=AU (AU r3 (g:=w.heap.size+1) (by omega) 2 (.slice A2 lb.length c2)) (g:=w.heap.size+1) (by omega) 3 (.slice A3 ks.length c3);have hs2:w.heap.size+2<=((w1.setCell ⟨w.heap.size+1,2,none⟩ (.slice A2 lb.length c2)).setCell ⟨w.heap.size+1,3,none⟩ (.slice A3 ks.length c3)).heap.size:=by
  have:=hb1.size;simp only [D6,OB];omega
 clear r2 r3 B1 B2 FW y0 y1 y2 y3 f0 f1 f2 f3 hx1 hb1;generalize(w1.setCell ⟨w.heap.size+1,2,none⟩ (.slice A2 lb.length c2)).setCell ⟨w.heap.size+1,3,none⟩ (.slice A3 ks.length c3)=W2 at*;refine(WS l[1].toNat W2 (by have:=l[1].toNat_lt;simpa [JQ]using this)).mono ?_;rintro e w3⟨hb3,A1,c1,b1,rfl,r1⟩;replace B1':=B1'.below hb3 B1'.lt;replace B2':=B2'.below hb3 B2'.lt;have Oy:=Eu.trans (hb3.mono Eu.size);obtain⟨y0,y1,y2,y3,f0,f1,f2,f3⟩:=blk4 B2';have hx2:w3.cell? ⟨b,off+2,none⟩=some (.int .u64 (l[2].toNat:Int)):=(Oy.cell (p:=⟨b,off+2,none⟩) hb0).trans (h.cellAt (by decide) (by omega))
 go_wp2_with fail
 have La:=(B2'.AZ 0 (.slice A1 (Ed l[1].toNat).length c1)).AZ 1 (.int .u64 (l[2].toNat:Int));have JH:=(B1'.far (g':=w.heap.size+1) (by omega) 0 (.slice A1 (Ed l[1].toNat).length c1)).far (g':=w.heap.size+1) (by omega) 1 (.int .u64 (l[2].toNat:Int));have YE:=(Oy.setCell (p:=⟨w.heap.size+1,0,none⟩) (by simp) (.slice A1 (Ed l[1].toNat).length c1)).setCell (p:=⟨w.heap.size+1,1,none⟩) (by simp) (.int .u64 (l[2].toNat:Int));have s2:=AU (AU (own_below r2' hb3) (g:=w.heap.size+1) (by omega) 0 (.slice A1 (Ed l[1].toNat).length c1)) (g:=w.heap.size+1) (by omega) 1 (.int .u64 (l[2].toNat:Int));have s3:=AU (AU (own_below r3' hb3) (g:=w.heap.size+1) (by omega) 0 (.slice A1 (Ed l[1].toNat).length c1)) (g:=w.heap.size+1) (by omega) 1 (.int .u64 (l[2].toNat:Int));have s1:=AU (AU r1 (g:=w.heap.size+1) (by omega) 0 (.slice A1 (Ed l[1].toNat).length c1)) (g:=w.heap.size+1) (by omega) 1 (.int .u64 (l[2].toNat:Int));clear r1 r2' r3' B1' B2' Eu Oy y0 y1 y2 y3 f0 f1 f2 f3 hx2;generalize(w3.setCell ⟨w.heap.size+1,0,none⟩ (.slice A1 (Ed l[1].toNat).length c1)).setCell ⟨w.heap.size+1,1,none⟩ (.int .u64 (l[2].toNat:Int))=W4 at*;have hen:=QR A1 A2 A3 (Ed l[1].toNat).length c1 lb.length c2 ks.length c3 (ET l) W4 (by omega) (by omega) (by omega) (by rw [Jo];exact(CB s1).2) (by rw [Jo];exact(CB s2).2) (by rw [Jo];exact(CB s3).2);rw [show(ET l).val=l[2]by rw [Jo]]at hen;have HEN:=Aa hen;have HC:=Aa Jo;clear hen Jo;obtain⟨y0,y1,y2,y3,f0,f1,f2,f3⟩:=blk4 La
 go_wp2_with fail
 refine HEN.out.mono ?_;rintro e w5⟨hb5,hE⟩;clear HEN y0 y1 y2 y3 f0 f1 f2 f3;replace JH:=JH.below hb5 JH.lt;replace La:=La.below hb5 La.lt;obtain⟨y0,y1,y2,y3,f0,f1,f2,f3⟩:=blk4 La;obtain⟨z0,z1,z2,z3,k0,k1,k2,k3⟩:=blk4 JH;have MS:=YE.trans (hb5.mono YE.size);cases hR:Ci (ET l)with
 | false=>
   rw [hR]at hE;subst hE;have HD:Hid (IG l=false):=Aa (by rw [IG,hR];simp);clear hR
   go_wp2_with fail
   have BF:=((((JH.AZ 0 (Ac none 0 0)).AZ 1 (Au .u64 0)).AZ 2 (Ac none 0 0)).AZ 3 (Ac none 0 0));have KL:=(((MS.setCell (p:=⟨w.heap.size,0,none⟩) (Ad _) (Ac none 0 0)).setCell (p:=⟨w.heap.size,1,none⟩) (Ad _) (Au .u64 0)).setCell (p:=⟨w.heap.size,2,none⟩) (Ad _) (Ac none 0 0)).setCell (p:=⟨w.heap.size,3,none⟩) (Ad _) (Ac none 0 0);generalize(((w5.setCell ⟨w.heap.size,0,none⟩ (Ac none 0 0)).setCell ⟨w.heap.size,1,none⟩ (Au .u64 0)).setCell ⟨w.heap.size,2,none⟩ (Ac none 0 0)).setCell ⟨w.heap.size,3,none⟩ (Ac none 0 0)=WF at*;obtain⟨p0,p1,p2,p3,_⟩:=blk4 BF;refine bodyPost_ret (v:= .tuple #[.agg #[Ac none 0 0,Au .u64 0,Ac none 0 0,Ac none 0 0],.bool false]) (by simp [results,Tryz.results181,go_sem,p0,p1,p2,p3]) rfl ?_;exact⟨KL,by rw [HD.out];rfl⟩
 | true=>
   rw [hR,if_pos rfl]at hE;obtain⟨v5,rfl,V8⟩:=hE;obtain⟨A5,c5,rfl,_,uk⟩:=CO V8;have heq:=PM A5 (some ⟨b,off,none⟩) (DX (ET l)).length 8 c5 c (DX (ET l)) l w5 (by rw [EL];split<;>decide) (by decide) uk (h.below MS);have hnn:(DX (ET l)).length<=32:=by rw [EL];split<;>decide
   generalize(DX (ET l)).length=n5 at*;have rU:=Aa heq;clear heq V8 uk;by_cases he:DX (ET l)=l
   ·have HD:Hid (IG l=true):=Aa (by rw [IG,hR];simp [hlen,he]);have HE:Hid (decide (DX (ET l)=l)=true):=Aa (by simp [he]);clear he hR
    go_wp2_with fail
    refine rU.out.mono ?_;rintro e w6⟨rfl,hdr⟩;have hb6:Below w5.heap.size w5 w6:=hdr.below _;replace JH:=JH.below hb6 JH.lt;replace La:=La.below hb6 La.lt;replace MS:=MS.trans (hb6.mono MS.size);clear y0 y1 y2 y3 f0 f1 f2 f3 z0 z1 z2 z3 k0 k1 k2 k3 hdr;obtain⟨y0,y1,y2,y3,f0,f1,f2,f3⟩:=blk4 La;obtain⟨z0,z1,z2,z3,k0,k1,k2,k3⟩:=blk4 JH;rw [HE.out];clear rU HE
    go_wp2_with fail
    have BF:=((((JH.AZ 0 (Ac A1 (Ed l[1].toNat).length c1)).AZ 1 (Au .u64 (l[2].toNat:Int))).AZ 2 (Ac A2 lb.length c2)).AZ 3 (Ac A3 ks.length c3));have KL:=(((MS.setCell (p:=⟨w.heap.size,0,none⟩) (Ad _) (Ac A1 (Ed l[1].toNat).length c1)).setCell (p:=⟨w.heap.size,1,none⟩) (Ad _) (Au .u64 (l[2].toNat:Int))).setCell (p:=⟨w.heap.size,2,none⟩) (Ad _) (Ac A2 lb.length c2)).setCell (p:=⟨w.heap.size,3,none⟩) (Ad _) (Ac A3 ks.length c3);have S1:=AU (AU (AU (AU (own_below (own_below s1 hb5) hb6) (g:=w.heap.size) (by omega) 0 (Ac A1 (Ed l[1].toNat).length c1)) (g:=w.heap.size) (by omega) 1 (Au .u64 (l[2].toNat:Int))) (g:=w.heap.size) (by omega) 2 (Ac A2 lb.length c2)) (g:=w.heap.size) (by omega) 3 (Ac A3 ks.length c3);have S2:=AU (AU (AU (AU (own_below (own_below s2 hb5) hb6) (g:=w.heap.size) (by omega) 0 (Ac A1 (Ed l[1].toNat).length c1)) (g:=w.heap.size) (by omega) 1 (Au .u64 (l[2].toNat:Int))) (g:=w.heap.size) (by omega) 2 (Ac A2 lb.length c2)) (g:=w.heap.size) (by omega) 3 (Ac A3 ks.length c3);have S3:=AU (AU (AU (AU (own_below (own_below s3 hb5) hb6) (g:=w.heap.size) (by omega) 0 (Ac A1 (Ed l[1].toNat).length c1)) (g:=w.heap.size) (by omega) 1 (Au .u64 (l[2].toNat:Int))) (g:=w.heap.size) (by omega) 2 (Ac A2 lb.length c2)) (g:=w.heap.size) (by omega) 3 (Ac A3 ks.length c3);generalize(((w6.setCell ⟨w.heap.size,0,none⟩ (Ac A1 (Ed l[1].toNat).length c1)).setCell ⟨w.heap.size,1,none⟩ (Au .u64 (l[2].toNat:Int))).setCell ⟨w.heap.size,2,none⟩ (Ac A2 lb.length c2)).setCell ⟨w.heap.size,3,none⟩ (Ac A3 ks.length c3)=WF at*;obtain⟨p0,p1,p2,p3,_⟩:=blk4 BF;refine bodyPost_ret (v:= .tuple #[.agg #[Ac A1 (Ed l[1].toNat).length c1,Au .u64 (l[2].toNat:Int),Ac A2 lb.length c2,Ac A3 ks.length c3],.bool true]) (by simp [results,Tryz.results181,go_sem,p0,p1,p2,p3]) rfl ?_;refine⟨KL,?_⟩;rw [HD.out,if_pos rfl,HC.out];exact⟨A1,c1,A2,c2,A3,c3,rfl,(CB S1).1,(CB S2).1,(CB S3).1,(CB S1).2,(CB S2).2,(CB S3).2,TL S1 (by omega),TL S2 (by omega),TL S3 (by omega)⟩
   ·have HD:Hid (IG l=false):=Aa (by rw [IG,hR];simp [he]);have HE:Hid (decide (DX (ET l)=l)=false):=Aa (by simp [he]);clear he hR
    go_wp2_with fail
    refine rU.out.mono ?_;rintro e w6⟨rfl,hdr⟩;have hb6:Below w5.heap.size w5 w6:=hdr.below _;replace JH:=JH.below hb6 JH.lt;replace La:=La.below hb6 La.lt;replace MS:=MS.trans (hb6.mono MS.size);clear y0 y1 y2 y3 f0 f1 f2 f3 z0 z1 z2 z3 k0 k1 k2 k3 hdr;obtain⟨y0,y1,y2,y3,f0,f1,f2,f3⟩:=blk4 La;obtain⟨z0,z1,z2,z3,k0,k1,k2,k3⟩:=blk4 JH;rw [HE.out];clear rU HE
    go_wp2_with fail
    have BF:=((((JH.AZ 0 (Ac none 0 0)).AZ 1 (Au .u64 0)).AZ 2 (Ac none 0 0)).AZ 3 (Ac none 0 0));have KL:=(((MS.setCell (p:=⟨w.heap.size,0,none⟩) (Ad _) (Ac none 0 0)).setCell (p:=⟨w.heap.size,1,none⟩) (Ad _) (Au .u64 0)).setCell (p:=⟨w.heap.size,2,none⟩) (Ad _) (Ac none 0 0)).setCell (p:=⟨w.heap.size,3,none⟩) (Ad _) (Ac none 0 0);generalize(((w6.setCell ⟨w.heap.size,0,none⟩ (Ac none 0 0)).setCell ⟨w.heap.size,1,none⟩ (Au .u64 0)).setCell ⟨w.heap.size,2,none⟩ (Ac none 0 0)).setCell ⟨w.heap.size,3,none⟩ (Ac none 0 0)=WF at*;obtain⟨p0,p1,p2,p3,_⟩:=blk4 BF;refine bodyPost_ret (v:= .tuple #[.agg #[Ac none 0 0,Au .u64 0,Ac none 0 0,Ac none 0 0],.bool false]) (by simp [results,Tryz.results181,go_sem,p0,p1,p2,p3]) rfl ?_;exact⟨KL,by rw [HD.out];rfl⟩
theorem Aeb(A:Option Addr)(c:Nat)(l:List UInt64)(w:World)(hc:32<=c)(h:Ws w A 32 l):
 Calls Tryz.prog 181 #[.slice A 32 c] w (XO l w):=by
 have hlen:=h.len;obtain⟨hq1,b,off,rfl,hb0,hc1⟩:=h.at (show 1<32 by decide);go_enter Tryz.func181,Tryz.ntmps181
 go_wp2_with(first| (go_at_call_of 180(Au IntKind.i64 1);refine(Jf 1 _).mono ?_;rintro e w'⟨rfl,rfl⟩;rw [show KY 1=8 from rfl])| (go_at_call_of 180(Au IntKind.i64 2);refine(Jf 2 _).mono ?_;rintro e w'⟨rfl,rfl⟩;rw [show KY 2=32 from rfl]))
 obtain⟨W,hW,B1,B2,hbW,hsW⟩:=V9 w 212 (.slice none 0 0) (.int .u64 0);rw [<-hW];clear hW;have q3:3<l.length:=by omega
 have hsm:=Ah9 (some ⟨b,off,none⟩) c l W hc (h.below hbW);have HSM:=Aa hsm;clear hsm;refine HSM.out.mono ?_;rintro e w1⟨hb1,A2,c2,A3,c3,rfl,r2,r3⟩;have R2:=Aa r2;have R3:=Aa r3;clear r2 r3;clear HSM;replace B1:=B1.below hb1 (by omega);replace B2:=B2.below hb1 (by omega);obtain⟨y0,y1,y2,y3,f0,f1,f2,f3⟩:=blk4 B2;have FW:=hbW.trans (hb1.mono hbW.size);have hx1:w1.cell? ⟨b,off+1,none⟩=some (.int .u64 (l[1].toNat:Int)):=(FW.cell (p:=⟨b,off+1,none⟩) hb0).trans hc1;have hne:b≠w.heap.size+1:=by omega
 go_wp2_with fail
 have Jo:ET l={pre:=Ed l[1].toNat,val:=l[2],labels:=(Jn 0 ((l.drop 4).take 16)),kids:=(JS ((l.drop 4).take 16))}:=by
  rw [ET,if_neg (by omega),tC];simp [Ur,show 1<l.length by omega,show 2<l.length by omega]
 have Apx:(JS ((l.drop 4).take 16)).length<=16:=by have:=Y0 ((l.drop 4).take 16);simp at this;omega
 have hlk2:(Jn 0 ((l.drop 4).take 16)).length<=16:=by rw [NW];exact Apx
 have r2:=R2.out;have r3:=R3.out;clear R2 R3;generalize(Jn 0 ((l.drop 4).take 16))=lb at*;generalize(JS ((l.drop 4).take 16))=ks at*;have hlp:=bW l[1].toNat;have B2':=(B2.AZ 2 (.slice A2 lb.length c2)).AZ 3 (.slice A3 ks.length c3);have B1':=(B1.far (g':=w.heap.size+1) (by omega) 2 (.slice A2 lb.length c2)).far (g':=w.heap.size+1) (by omega) 3 (.slice A3 ks.length c3);have Eu:=(FW.setCell (p:=⟨w.heap.size+1,2,none⟩) (by simp) (.slice A2 lb.length c2)).setCell (p:=⟨w.heap.size+1,3,none⟩) (by simp) (.slice A3 ks.length c3);have r2':=AU (AU r2 (g:=w.heap.size+1) (by omega) 2 (.slice A2 lb.length c2)) (g:=w.heap.size+1) (by omega) 3 (.slice A3 ks.length c3);have r3':=AU (AU r3 (g:=w.heap.size+1) (by omega) 2 (.slice A2 lb.length c2)) (g:=w.heap.size+1) (by omega) 3 (.slice A3 ks.length c3);have hs2:w.heap.size+2<=((w1.setCell ⟨w.heap.size+1,2,none⟩ (.slice A2 lb.length c2)).setCell ⟨w.heap.size+1,3,none⟩ (.slice A3 ks.length c3)).heap.size:=by
  have:=hb1.size;simp only [D6,OB];omega
 clear r2 r3 B1 B2 FW y0 y1 y2 y3 f0 f1 f2 f3 hx1 hb1;generalize(w1.setCell ⟨w.heap.size+1,2,none⟩ (.slice A2 lb.length c2)).setCell ⟨w.heap.size+1,3,none⟩ (.slice A3 ks.length c3)=W2 at*;refine(WS l[1].toNat W2 (by have:=l[1].toNat_lt;simpa [JQ]using this)).mono ?_;rintro e w3⟨hb3,A1,c1,b1,rfl,r1⟩;replace B1':=B1'.below hb3 B1'.lt;replace B2':=B2'.below hb3 B2'.lt;have Oy:=Eu.trans (hb3.mono Eu.size);obtain⟨y0,y1,y2,y3,f0,f1,f2,f3⟩:=blk4 B2';have hx2:w3.cell? ⟨b,off+2,none⟩=some (.int .u64 (l[2].toNat:Int)):=(Oy.cell (p:=⟨b,off+2,none⟩) hb0).trans (h.cellAt (by decide) (by omega))
 go_wp2_with fail
 have La:=(B2'.AZ 0 (.slice A1 (Ed l[1].toNat).length c1)).AZ 1 (.int .u64 (l[2].toNat:Int));have JH:=(B1'.far (g':=w.heap.size+1) (by omega) 0 (.slice A1 (Ed l[1].toNat).length c1)).far (g':=w.heap.size+1) (by omega) 1 (.int .u64 (l[2].toNat:Int));have YE:=(Oy.setCell (p:=⟨w.heap.size+1,0,none⟩) (by simp) (.slice A1 (Ed l[1].toNat).length c1)).setCell (p:=⟨w.heap.size+1,1,none⟩) (by simp) (.int .u64 (l[2].toNat:Int));have s2:=AU (AU (own_below r2' hb3) (g:=w.heap.size+1) (by omega) 0 (.slice A1 (Ed l[1].toNat).length c1)) (g:=w.heap.size+1) (by omega) 1 (.int .u64 (l[2].toNat:Int));have s3:=AU (AU (own_below r3' hb3) (g:=w.heap.size+1) (by omega) 0 (.slice A1 (Ed l[1].toNat).length c1)) (g:=w.heap.size+1) (by omega) 1 (.int .u64 (l[2].toNat:Int));have s1:=AU (AU r1 (g:=w.heap.size+1) (by omega) 0 (.slice A1 (Ed l[1].toNat).length c1)) (g:=w.heap.size+1) (by omega) 1 (.int .u64 (l[2].toNat:Int));clear r1 r2' r3' B1' B2' Eu Oy y0 y1 y2 y3 f0 f1 f2 f3 hx2;generalize(w3.setCell ⟨w.heap.size+1,0,none⟩ (.slice A1 (Ed l[1].toNat).length c1)).setCell ⟨w.heap.size+1,1,none⟩ (.int .u64 (l[2].toNat:Int))=W4 at*;have hen:=QR A1 A2 A3 (Ed l[1].toNat).length c1 lb.length c2 ks.length c3 (ET l) W4 (by omega) (by omega) (by omega) (by rw [Jo];exact(CB s1).2) (by rw [Jo];exact(CB s2).2) (by rw [Jo];exact(CB s3).2);rw [show(ET l).val=l[2]by rw [Jo]]at hen;have HEN:=Aa hen;have HC:=Aa Jo;clear hen Jo;obtain⟨y0,y1,y2,y3,f0,f1,f2,f3⟩:=blk4 La
 go_wp2_with fail
 refine HEN.out.mono ?_;rintro e w5⟨hb5,hE⟩;clear HEN y0 y1 y2 y3 f0 f1 f2 f3;replace JH:=JH.below hb5 JH.lt;replace La:=La.below hb5 La.lt;obtain⟨y0,y1,y2,y3,f0,f1,f2,f3⟩:=blk4 La;obtain⟨z0,z1,z2,z3,k0,k1,k2,k3⟩:=blk4 JH;have MS:=YE.trans (hb5.mono YE.size);cases hR:Ci (ET l)with
 | false=>
   rw [hR]at hE;subst hE;have HD:Hid (IG l=false):=Aa (by rw [IG,hR];simp);clear hR
   go_wp2_with fail
   have BF:=((((JH.AZ 0 (Ac none 0 0)).AZ 1 (Au .u64 0)).AZ 2 (Ac none 0 0)).AZ 3 (Ac none 0 0));have KL:=(((MS.setCell (p:=⟨w.heap.size,0,none⟩) (Ad _) (Ac none 0 0)).setCell (p:=⟨w.heap.size,1,none⟩) (Ad _) (Au .u64 0)).setCell (p:=⟨w.heap.size,2,none⟩) (Ad _) (Ac none 0 0)).setCell (p:=⟨w.heap.size,3,none⟩) (Ad _) (Ac none 0 0);generalize(((w5.setCell ⟨w.heap.size,0,none⟩ (Ac none 0 0)).setCell ⟨w.heap.size,1,none⟩ (Au .u64 0)).setCell ⟨w.heap.size,2,none⟩ (Ac none 0 0)).setCell ⟨w.heap.size,3,none⟩ (Ac none 0 0)=WF at*;obtain⟨p0,p1,p2,p3,_⟩:=blk4 BF;refine bodyPost_ret (v:= .tuple #[.agg #[Ac none 0 0,Au .u64 0,Ac none 0 0,Ac none 0 0],.bool false]) (by simp [results,Tryz.results181,go_sem,p0,p1,p2,p3]) rfl ?_;exact⟨KL,by rw [HD.out];rfl⟩
 | true=>
   rw [hR,if_pos rfl]at hE;obtain⟨v5,rfl,V8⟩:=hE;obtain⟨A5,c5,rfl,_,uk⟩:=CO V8;have heq:=PM A5 (some ⟨b,off,none⟩) (DX (ET l)).length 32 c5 c (DX (ET l)) l w5 (by rw [EL];split<;>decide) (by decide) uk (h.below MS);have hnn:(DX (ET l)).length<=32:=by rw [EL];split<;>decide
   generalize(DX (ET l)).length=n5 at*;have rU:=Aa heq;clear heq V8 uk;by_cases he:DX (ET l)=l
   ·have HD:Hid (IG l=true):=Aa (by rw [IG,hR];simp [hlen,he]);have HE:Hid (decide (DX (ET l)=l)=true):=Aa (by simp [he]);clear he hR
    go_wp2_with fail
    refine rU.out.mono ?_;rintro e w6⟨rfl,hdr⟩;have hb6:Below w5.heap.size w5 w6:=hdr.below _;replace JH:=JH.below hb6 JH.lt;replace La:=La.below hb6 La.lt;replace MS:=MS.trans (hb6.mono MS.size);clear y0 y1 y2 y3 f0 f1 f2 f3 z0 z1 z2 z3 k0 k1 k2 k3 hdr;obtain⟨y0,y1,y2,y3,f0,f1,f2,f3⟩:=blk4 La;obtain⟨z0,z1,z2,z3,k0,k1,k2,k3⟩:=blk4 JH;rw [HE.out];clear rU HE
    go_wp2_with fail
    have BF:=((((JH.AZ 0 (Ac A1 (Ed l[1].toNat).length c1)).AZ 1 (Au .u64 (l[2].toNat:Int))).AZ 2 (Ac A2 lb.length c2)).AZ 3 (Ac A3 ks.length c3));have KL:=(((MS.setCell (p:=⟨w.heap.size,0,none⟩) (Ad _) (Ac A1 (Ed l[1].toNat).length c1)).setCell (p:=⟨w.heap.size,1,none⟩) (Ad _) (Au .u64 (l[2].toNat:Int))).setCell (p:=⟨w.heap.size,2,none⟩) (Ad _) (Ac A2 lb.length c2)).setCell (p:=⟨w.heap.size,3,none⟩) (Ad _) (Ac A3 ks.length c3);have S1:=AU (AU (AU (AU (own_below (own_below s1 hb5) hb6) (g:=w.heap.size) (by omega) 0 (Ac A1 (Ed l[1].toNat).length c1)) (g:=w.heap.size) (by omega) 1 (Au .u64 (l[2].toNat:Int))) (g:=w.heap.size) (by omega) 2 (Ac A2 lb.length c2)) (g:=w.heap.size) (by omega) 3 (Ac A3 ks.length c3);have S2:=AU (AU (AU (AU (own_below (own_below s2 hb5) hb6) (g:=w.heap.size) (by omega) 0 (Ac A1 (Ed l[1].toNat).length c1)) (g:=w.heap.size) (by omega) 1 (Au .u64 (l[2].toNat:Int))) (g:=w.heap.size) (by omega) 2 (Ac A2 lb.length c2)) (g:=w.heap.size) (by omega) 3 (Ac A3 ks.length c3);have S3:=AU (AU (AU (AU (own_below (own_below s3 hb5) hb6) (g:=w.heap.size) (by omega) 0 (Ac A1 (Ed l[1].toNat).length c1)) (g:=w.heap.size) (by omega) 1 (Au .u64 (l[2].toNat:Int))) (g:=w.heap.size) (by omega) 2 (Ac A2 lb.length c2)) (g:=w.heap.size) (by omega) 3 (Ac A3 ks.length c3);generalize(((w6.setCell ⟨w.heap.size,0,none⟩ (Ac A1 (Ed l[1].toNat).length c1)).setCell ⟨w.heap.size,1,none⟩ (Au .u64 (l[2].toNat:Int))).setCell ⟨w.heap.size,2,none⟩ (Ac A2 lb.length c2)).setCell ⟨w.heap.size,3,none⟩ (Ac A3 ks.length c3)=WF at*;obtain⟨p0,p1,p2,p3,_⟩:=blk4 BF;refine bodyPost_ret (v:= .tuple #[.agg #[Ac A1 (Ed l[1].toNat).length c1,Au .u64 (l[2].toNat:Int),Ac A2 lb.length c2,Ac A3 ks.length c3],.bool true]) (by simp [results,Tryz.results181,go_sem,p0,p1,p2,p3]) rfl ?_;refine⟨KL,?_⟩;rw [HD.out,if_pos rfl,HC.out];exact⟨A1,c1,A2,c2,A3,c3,rfl,(CB S1).1,(CB S2).1,(CB S3).1,(CB S1).2,(CB S2).2,(CB S3).2,TL S1 (by omega),TL S2 (by omega),TL S3 (by omega)⟩
   ·have HD:Hid (IG l=false):=Aa (by rw [IG,hR];simp [he]);have HE:Hid (decide (DX (ET l)=l)=false):=Aa (by simp [he]);clear he hR
    go_wp2_with fail
    refine rU.out.mono ?_;rintro e w6⟨rfl,hdr⟩;have hb6:Below w5.heap.size w5 w6:=hdr.below _;replace JH:=JH.below hb6 JH.lt;replace La:=La.below hb6 La.lt;replace MS:=MS.trans (hb6.mono MS.size);clear y0 y1 y2 y3 f0 f1 f2 f3 z0 z1 z2 z3 k0 k1 k2 k3 hdr;obtain⟨y0,y1,y2,y3,f0,f1,f2,f3⟩:=blk4 La;obtain⟨z0,z1,z2,z3,k0,k1,k2,k3⟩:=blk4 JH;rw [HE.out];clear rU HE
    go_wp2_with fail
    have BF:=((((JH.AZ 0 (Ac none 0 0)).AZ 1 (Au .u64 0)).AZ 2 (Ac none 0 0)).AZ 3 (Ac none 0 0));have KL:=(((MS.setCell (p:=⟨w.heap.size,0,none⟩) (Ad _) (Ac none 0 0)).setCell (p:=⟨w.heap.size,1,none⟩) (Ad _) (Au .u64 0)).setCell (p:=⟨w.heap.size,2,none⟩) (Ad _) (Ac none 0 0)).setCell (p:=⟨w.heap.size,3,none⟩) (Ad _) (Ac none 0 0);generalize(((w6.setCell ⟨w.heap.size,0,none⟩ (Ac none 0 0)).setCell ⟨w.heap.size,1,none⟩ (Au .u64 0)).setCell ⟨w.heap.size,2,none⟩ (Ac none 0 0)).setCell ⟨w.heap.size,3,none⟩ (Ac none 0 0)=WF at*;obtain⟨p0,p1,p2,p3,_⟩:=blk4 BF;refine bodyPost_ret (v:= .tuple #[.agg #[Ac none 0 0,Au .u64 0,Ac none 0 0,Ac none 0 0],.bool false]) (by simp [results,Tryz.results181,go_sem,p0,p1,p2,p3]) rfl ?_;exact⟨KL,by rw [HD.out];rfl⟩
theorem iq(A:Option Addr)(n c:Nat)(l:List UInt64)(w:World)(_hn:n<=1000000)(h:Ws w A n l)(h8:n≠8)(h32:n≠32):
 Calls Tryz.prog 181 #[.slice A n c] w (XO l w):=by
 have hlen:=h.len;have HD:Hid (IG l=false):=Aa (by rw [IG,hlen];simp [h8,h32]);have t8:((n:Int)==8)=false:=by simp;omega
 have t32:((n:Int)==32)=false:=by simp;omega
 obtain⟨W,hW,B1,B2,hbW,hsW⟩:=V9 w 212 (.slice none 0 0) (.int .u64 0);obtain⟨z0,z1,z2,z3,k0,k1,k2,k3⟩:=blk4 B1;have HW:=Aa hW;clear hW h8 h32;go_enter Tryz.func181,Tryz.ntmps181
 go_wp2_with fail
 rw [<-HW.out];refine(Jf 1 _).mono ?_;rintro e w'⟨rfl,rfl⟩;rw [show KY 1=8 from rfl]
 go_wp2_with fail
 refine(Jf 2 _).mono ?_;rintro e w'⟨rfl,rfl⟩;rw [show KY 2=32 from rfl]
 go_wp2_with fail
 have BF:=((((B1.AZ 0 (Ac none 0 0)).AZ 1 (Au .u64 0)).AZ 2 (Ac none 0 0)).AZ 3 (Ac none 0 0));have KL:=(((hbW.setCell (p:=⟨w.heap.size,0,none⟩) (Ad _) (Ac none 0 0)).setCell (p:=⟨w.heap.size,1,none⟩) (Ad _) (Au .u64 0)).setCell (p:=⟨w.heap.size,2,none⟩) (Ad _) (Ac none 0 0)).setCell (p:=⟨w.heap.size,3,none⟩) (Ad _) (Ac none 0 0);generalize(((W.setCell ⟨w.heap.size,0,none⟩ (Ac none 0 0)).setCell ⟨w.heap.size,1,none⟩ (Au .u64 0)).setCell ⟨w.heap.size,2,none⟩ (Ac none 0 0)).setCell ⟨w.heap.size,3,none⟩ (Ac none 0 0)=WF at*;obtain⟨p0,p1,p2,p3,_⟩:=blk4 BF;refine bodyPost_ret (v:= .tuple #[.agg #[Ac none 0 0,Au .u64 0,Ac none 0 0,Ac none 0 0],.bool false]) (by simp [results,Tryz.results181,go_sem,p0,p1,p2,p3]) rfl ?_;exact⟨KL,by rw [HD.out];rfl⟩
theorem decode_any(A:Option Addr)(n c:Nat)(l:List UInt64)(w:World)(hn:n<=1000000)(hc:n<=c)(h:Ws w A n l):
 Calls Tryz.prog 181 #[.slice A n c] w (XO l w):=by
 by_cases h8:n=8
 ·subst h8;exact Aia A c l w hc h
 ·by_cases h32:n=32
  ·subst h32;exact Aeb A c l w hc h
  ·exact iq A n c l w hn h h8 h32
def X7(x:Nd)(label:UInt8):Value:=
 match x.labels.findIdx? (fun y=>y.toNat==label.toNat)with
 | some i=>if Ci x then .tuple #[.int .u64 ((x.kids.getD i 0).toNat:Int),.int .i64 (if x.kids.length<=4 then 4+(i:Int)else 4+(label.toNat:Int)),.bool true]else .tuple #[.int .u64 0,.int .i64 0,.bool false]
 | none=> .tuple #[.int .u64 0,.int .i64 0,.bool false]
theorem Aec(A1 A2 A3:Option Addr)(n1 c1 n2 c2 n3 c3:Nat)(x:Nd)(label:UInt8)(w:World)(b1:n1<=1000000)(b2:n2<=1000000)(b3:n3<=1000000)(h1:Bs w A1 n1 x.pre)(h2:Bs w A2 n2 x.labels)(h3:Ws w A3 n3 x.kids):
 Calls Tryz.prog 156 #[.agg #[.slice A1 n1 c1,.int .u64 (x.val.toNat:Int),.slice A2 n2 c2,.slice A3 n3 c3],.int .u8 (label.toNat:Int)] w fun e w'=>e= .returned (X7 x label)/\Below w.heap.size w w':=by
 have hl1:=h1.len;have hl2:=h2.len;have hl3:=h3.len;have hlb:label.toNat<256:=label.toNat_lt;obtain⟨W,hW,e0,e1,e2,e3,hb,hs⟩:=Aea w 212 (.slice A1 n1 c1) (.int .u64 (x.val.toNat:Int)) (.slice A2 n2 c2) (.slice A3 n3 c3);have hix:=TK A2 n2 c2 x.labels label W (by omega) (h2.below hb);have aP:=KZ A1 A2 A3 n1 c1 n2 c2 n3 c3 x W b1 b2 b3 (h1.below hb) (h2.below hb) (h3.below hb);have HW:=Aa hW;have HIX:=Aa hix;have yz:=Aa aP;clear hW hix aP;cases hf:x.labels.findIdx? (fun y=>y.toNat==label.toNat)with
 | none=>
   have hpl:placeOf (fun y=>y.toNat==label.toNat) x.labels= -1:=by rw [placeOf,hf]
   have HV:Hid (X7 x label= .tuple #[.int .u64 0,.int .i64 0,.bool false]):=Aa (by rw [X7,hf]);have HPL:=Aa hpl;clear hpl hf;go_enter Tryz.func156,Tryz.ntmps156
   go_wp2_with fail
   rw [<-HW.out];refine HIX.out.mono ?_;rintro e w'⟨rfl,rfl⟩;rw [HPL.out]
   go_wp2_with fail
   go_ret3
   exact⟨by rw [HV.out];rfl,hb⟩
 | some i=>
   have hi0:decide ((i:Int)<0)=false:=by simp
   have hpl:placeOf (fun y=>y.toNat==label.toNat) x.labels=(i:Int):=by rw [placeOf,hf]
   have hi:i<n2:=by
    rw [List.findIdx?_eq_some_iff_getElem]at hf;obtain⟨hi,_⟩:=hf;omega
   have HPL:=Aa hpl;have HF:=Aa hf;clear hpl hf;go_enter Tryz.func156,Tryz.ntmps156
   go_wp2_with fail
   rw [<-HW.out];refine HIX.out.mono ?_;rintro e w'⟨rfl,rfl⟩;rw [HPL.out];clear HIX HPL
   go_wp2_with fail
   refine yz.out.mono ?_;rintro e w1⟨rfl,hb1⟩;obtain⟨p0,p1,p2,p3,hs1⟩:=OJ e0 e1 e2 e3 (by omega) hb1;have FW:=hb.trans (hb1.mono hb.size);clear yz e0 e1 e2 e3 hb hb1;cases hR:Ci x with
   | false=>
     have HV:Hid (X7 x label= .tuple #[.int .u64 0,.int .i64 0,.bool false]):=Aa (by rw [X7,HF.out];simp [hR]);clear hR
     go_wp2_with fail
     go_ret3
     exact⟨by rw [HV.out];rfl,FW⟩
   | true=>
     have hlk:=((Bo x).1 hR).2.2.1;have hi3:i<n3:=by omega
     have hg:x.kids.getD i 0=x.kids[i]'(by omega):=by simp [Ur,show i<x.kids.length by omega]
     have hv:X7 x label= .tuple #[.int .u64 ((x.kids.getD i 0).toNat:Int),.int .i64 (if x.kids.length<=4 then 4+(i:Int)else 4+(label.toNat:Int)),.bool true]:=by rw [X7,HF.out];simp [hR]
     rw [hl3,hg]at hv;clear hg;have HV:=Aa hv;clear hv hR
     go_wp2_with fail
     refine(V7 _ _ _ A3 n3 c3 w1 (by omega)).mono ?_;rintro e w2⟨rfl,hb2⟩;obtain⟨q0,q1,q2,q3,hs2⟩:=OJ p0 p1 p2 p3 hs1 hb2;have Eu:=FW.trans (hb2.mono FW.size);clear p0 p1 p2 p3 FW hb2;obtain⟨hq,b,off,rfl,_,hc⟩:=(h3.below Eu).at hi3;by_cases h4:n3<=4
     ·rw [if_pos h4]at HV;rw [if_pos h4]
      go_wp2_with fail
      go_ret3
      exact⟨by rw [HV.out];rfl,Eu⟩
     ·rw [if_neg h4]at HV;rw [if_neg h4]
      go_wp2_with fail
      go_ret3
      exact⟨by rw [HV.out];rfl,Eu⟩
