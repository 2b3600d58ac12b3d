import Derived.Laws.CopyOwn
import Derived.Test.YtkimaejoeapmnaaGreatDoorH04
set_option linter.defProp false
set_option maxHeartbeats 32000000
set_option maxRecDepth 100000
open Array renaming getElem?_eq_some_iff->AB,getElem?_push->FH,size_modify->Pg
open Nat renaming le_refl->Ad,zero_add->DR,min_eq_left->Ny,zero_le->BU,le_trans->Bc
open List renaming getElem?_eq_getElem->Af,take_of_length_le->FM,map_cons->Cb,map_nil->Gv,replicate->BC,map_append->Dx,length_map->BJ,length_append->AQ,getD->UK
open Go.World renaming setCell->D8,ownsRow_nil->Fp
open Go.Value renaming ownBlock->Bd,int->Au,oneCell'->Aiz,slice->Ac
open UInt64 renaming ofNat->Aw,toNat_ofNat_of_lt'->GU,size->Kt
open Go.Lib renaming hid->Aa
namespace Go.Proofs.YtkimaejoeapmnaaGreatDoor
open Go.RowKit
open Go.Proofs.Tryz
def CS(w:World)(g:Nat)(e:TypeId)(xs:List Value):Prop:=w.heap[g]? =some (.cells xs.toArray e (0,0))
def CS.lt{w:World}{g:Nat}{e:TypeId}{xs:List Value}(h:CS w g e xs):g<w.heap.size:=(AB.1 h).1
def CS.cell{w:World}{g:Nat}{e:TypeId}{xs:List Value}(h:CS w g e xs)(i:Nat):w.cell? (Δ g i)=xs[i]? :=by
 rw [cell_of_row w g i _ e (0,0) h];simp
def CS.p1{w:World}{g:Nat}{e:TypeId}{a0:Value}{l:List Value}(h:CS w g e (a0::l)):w.cell? (Φ g)=some a0:=h.cell 0
def CS.p2{w:World}{g:Nat}{e:TypeId}{a0 a1:Value}{l:List Value}(h:CS w g e (a0::a1::l)):w.cell? (Φ g)=some a0/\w.cell? (Δ g 1)=some a1:=⟨h.cell 0,h.cell 1⟩
def CS.p3{w:World}{g:Nat}{e:TypeId}{a0 a1 a2:Value}{l:List Value}(h:CS w g e (a0::a1::a2::l)):w.cell? (Φ g)=some a0/\w.cell? (Δ g 1)=some a1/\w.cell? (Δ g 2)=some a2:=⟨h.cell 0,h.cell 1,h.cell 2⟩
def EZ(w:World)(e:TypeId)(xs:List Value):∃W,W=w.alloc (.cells xs.toArray e)/\η w W/\CS W w.heap.size e xs:=⟨_,rfl,(Below.refl _ _).alloc (Ad _) _,heap_alloc_new _ _⟩
def CS.has{w:World}{g:Nat}{e:TypeId}{xs:List Value}(h:CS w g e xs){i:Nat}(hi:i<xs.length):w.cell? (Δ g i)=some xs[i]:=by
 rw [h.cell,Af hi]
def CS.frozen{w:World}{g:Nat}{e:TypeId}{xs:List Value}(h:CS w g e xs)(i:Nat):w.frozen? (Δ g i)=false:=by
 unfold CS at h;simp [World.frozen?,h]
def CS.AZ{w:World}{g:Nat}{e:TypeId}{xs:List Value}(h:CS w g e xs)(i:Nat)(u:Value):CS (w.setCell (Δ g i) u) g e (xs.set i u):=by
 unfold CS at h⊢;simp [D8,Array.getElem?_modify,h]
def CS.drew{w:World}{g:Nat}{e:TypeId}{xs:List Value}(h:CS w g e xs):CS w.drew g e xs:=h
def CS.below{w w':World}{g B:Nat}{e:TypeId}{xs:List Value}(h:CS w g e xs)(hb:Below B w w')(hg:g<B):CS w' g e xs:=(hb.block g hg).trans h
def CS.ξ{w W:World}{g:Nat}{e:TypeId}{xs:List Value}(h:CS w g e xs)(k:Below w.heap.size w W):CS W g e xs:=h.below k h.lt
def CS.rd{w:World}{g:Nat}{e:TypeId}{xs:List Value}(h:CS w g e xs):Rd w (some (Φ g)) xs.length xs:=
 ⟨rfl,λ_=>⟨g,0,rfl,h.lt,λj _=>by rw [DR,h.cell]⟩⟩
def CS.own{w:World}{g B:Nat}{e:TypeId}{xs:List Value}(h:CS w g e xs)(hB:B<=g)(hm:xs.length<=maxLen):w.ownsRow B e 1 (.slice (some (Φ g)) xs.length xs.length) xs.length xs:=
 ⟨by simp,.inr ⟨g,xs.length,xs.toArray,rfl,hB,h,Ad _,hm,by simp,by simp⟩⟩
def Zm{w:World}{B g n:Nat}{e:TypeId}{xs:List Value}(h:w.ownsRow B e 1 (.slice (some (Φ g)) n n) n xs):CS w g e xs:=by
 rcases h.2 with⟨h',_⟩| ⟨g',cap,cur,hv,_,hg,_,_,hcs,htake⟩
 ·cases h'
 ·simp only [Value.slice.injEq,Option.some.injEq,Addr.mk.injEq,and_true,true_and]at hv;obtain⟨rfl,rfl⟩:=hv;unfold CS;rw [hg];congr 2;rw [<-htake,FM (by simp [hcs])]
def Pv{W W':World}{g:Nat}{a b c d:Value}(e0:W.cell? (Φ g)=some a)(e1:W.cell? (Δ g 1)=some b)(e2:W.cell? (Δ g 2)=some c)(e3:W.cell? (Δ g 3)=some d)
 (hg:g<W.heap.size)(hb:η W W'):
 W'.cell? (Φ g)=some a/\W'.cell? (Δ g 1)=some b/\W'.cell? (Δ g 2)=some c/\W'.cell? (Δ g 3)=some d/\g<W'.heap.size:=
 ⟨(hb.cell (p:=Φ g) hg).trans e0,(hb.cell (p:=Δ g 1) hg).trans e1,(hb.cell (p:=Δ g 2) hg).trans e2,(hb.cell (p:=Δ g 3) hg).trans e3,Nat.lt_of_lt_of_le hg hb.size⟩
def Abx{W W':World}{g B:Nat}{a b c d:Value}(e0:W.cell? (Φ g)=some a)(e1:W.cell? (Δ g 1)=some b)(e2:W.cell? (Δ g 2)=some c)(e3:W.cell? (Δ g 3)=some d)
 (hB:g<B)(hb:Below B W W'):
 W'.cell? (Φ g)=some a/\W'.cell? (Δ g 1)=some b/\W'.cell? (Δ g 2)=some c/\W'.cell? (Δ g 3)=some d/\True:=
 ⟨(hb.cell (p:=Φ g) hB).trans e0,(hb.cell (p:=Δ g 1) hB).trans e1,(hb.cell (p:=Δ g 2) hB).trans e2,(hb.cell (p:=Δ g 3) hB).trans e3,trivial⟩
def Qd{W:World}{g g':Nat}{a b c d:Value}(e0:W.cell? (Φ g)=some a)(e1:W.cell? (Δ g 1)=some b)(e2:W.cell? (Δ g 2)=some c)(e3:W.cell? (Δ g 3)=some d)
 (hg:g<W.heap.size)(hne:g≠g')(i:Nat)(u:Value):
 (W.setCell (Δ g' i) u).cell? (Φ g)=some a/\(W.setCell (Δ g' i) u).cell? (Δ g 1)=some b/\(W.setCell (Δ g' i) u).cell? (Δ g 2)=some c/\(W.setCell (Δ g' i) u).cell? (Δ g 3)=some d/\g<(W.setCell (Δ g' i) u).heap.size:=by
 have key:∀j,(W.setCell (Δ g' i) u).cell? (Δ g j)=W.cell? (Δ g j):=λj=>
  World.cell?_of_block (w:=W) (a:=Δ g j) (Below.heap_setCell W (Δ g' i) u g hne)
 exact⟨(key 0).trans e0,(key 1).trans e1,(key 2).trans e2,(key 3).trans e3,by simpa [D8]using hg⟩
def Aby{w:World}{A:Option Addr}{n:Nat}{l:List UInt64}(h:Ws w A n l){dp:Option Addr}{g off:Nat}(hd:dp=some (Δ g off):=by rfl):
 0<(l.map wv).length->dp=some (Δ g off)/\∃ad,A=some ad/\∀j v,(l.map wv)[j]? =some v->w.cell? (ad.add j)=some v:=by
 intro h0;obtain⟨b,o,rfl,_,hc⟩:=h.2 (Ω h.1);refine⟨hd,_,rfl,λj v hv=> ?_⟩;rw [Addr.add_lit,hc j (Ψ ((List.getElem?_eq_some_iff.1 hv).1) h.1),hv]
def Kept(w w':World)(row:Option Nat):Prop:=w.heap.size<=w'.heap.size/\∀k,k<w.heap.size->some k≠row->w'.heap[k]? =w.heap[k]?
def NU{w w':World}{base:Nat}{e:TypeId}{v:Value}{n:Nat}{xs:List Value}{row:Option Nat}(h:w.ownsRow base e 1 v n xs)(hk:Kept w w' row)(hne:∀g,v.ownBlock=some g->row≠some g):w'.ownsRow base e 1 v n xs:=by
 refine⟨h.1,?_⟩;rcases h.2 with h| ⟨g,cap,cur,h1,h2,h3,h4⟩
 ·exact .inl h
 ·exact .inr ⟨g,cap,cur,h1,h2,by
  rw [hk.2 g (AB.1 h3).1 (λe=>hne g (by rw [h1];rfl) e.symm)];exact h3,h4⟩
def NJ{w:World}{b1 b2:Nat}{e1 e2:TypeId}{v1 v2:Value}{n1 n2:Nat}{xs1 xs2:List Value}(h1:w.ownsRow b1 e1 1 v1 n1 xs1)(h2:w.ownsRow b2 e2 1 v2 n2 xs2)(hne:e1≠e2):
 ∀g,v1.ownBlock=some g->v2.ownBlock≠some g:=by
 intro g hg hg2;rcases h1.2 with⟨rfl,_⟩| ⟨g1,cap1,vT,rfl,_,hh1,_⟩
 ·simp [Bd]at hg
 ·rcases h2.2 with⟨rfl,_⟩| ⟨g2,cap2,Yk,rfl,_,hh2,_⟩
  ·simp [Bd]at hg2
  ·simp [Bd]at hg hg2;subst hg hg2;rw [hh1]at hh2;injection hh2 with hh2
   injection hh2 with _ ht
   exact hne ht
def o6{P:Program}{t e:TypeId}{z:Value}{bytes:Nat}(T:MH P t e z bytes)(ty:TypeId){w wr:World}{base:Nat}{v:Value}{n:Nat}{xs news:List Value}
 (hown:wr.ownsRow base e 1 v n xs)(hw:w.heap=wr.heap.push (.cells news.toArray e))(hos:w.os=wr.os)(htape:w.tape=wr.tape)(hout:w.output=wr.output)
 (h1:∀u∈news,u.oneCell'=true)(hm:n+news.length<=1000000000)(hby:bytes<=64)(hbase:base<=wr.heap.size)(m c:Nat)(hmn:m=news.length):
 ∃v' w',(Builtin.append_ #[t,t] ty #[v,.slice (some (Φ wr.heap.size)) m c]).run P w= .ok v' w'/\w'.ownsRow base e 1 v' (n+m) (xs++news)/\Below base wr w'/\Kept wr w' v.ownBlock:=by
 subst hmn;obtain⟨i,hi,hz0,hz1,hz2⟩:=info_parts T.hi;have hb1:η wr w:=⟨hos,htape,hout,by rw [hw];simp,λk hk=>by rw [hw,FH,if_neg O]⟩;have hown':w.ownsRow base e 1 v n xs:=by
  refine⟨hown.1,?_⟩;rcases hown.2 with h| ⟨g,cap,cur,h1,h2,h3,h4⟩
  ·exact .inl h
  ·exact .inr ⟨g,cap,cur,h1,h2,by rw [hb1.block g (AB.1 h3).1];exact h3,h4⟩
 have hcells:∀j u,news[j]? =some u->w.cell? (((Φ wr.heap.size):Addr).add j)=some u:=by
  intro j u hu;rw [show((Φ wr.heap.size):Addr).add j=(Δ wr.heap.size (0+j)) from Addr.add_lit _ _ _];rw [cell_of_row w wr.heap.size (0+j) news.toArray e (0,0) (by rw [hw,FH,if_pos rfl])];simpa using hu
 have hmul:(n+news.length)*bytes<=1000000000*64:=Nat.mul_le_mul hm hby;obtain⟨v',w',hrun,h2,h3,_⟩:=run_append_own (P:=P) w base t ty e i z 1 bytes T.ht hi hz0 hz1 hz2 T.hz U v n xs hown' _ news.length c news Θ hcells h1
  (by unfold maxLen;omega) O (by rw [hw];simp;omega)
 refine⟨v',w',hrun,h2,(hb1.mono hbase).trans ?_,?_,?_⟩
 ·exact(Below.refl _ _).grown h3 (by rw [hw];simp;omega) (λk hk=>(hown'.lt k hk).1)
 ·have:=h3.size;rw [hw]at this;simp at this;omega
 ·intro k hk hkr;rw [h3.block k (by rw [hw];simp;omega) hkr,hb1.block k hk]
def IG{P:Program}{ops:Array Oper}{rest:List Oper}{o:Oper}{a:Act}{w:World}{Q:Exit->Act->World->Prop}(hgd:o.guard=none)(s x:Operand)(t:TypeId)
 (ho:o.op= .call {callee:= .builtin .append,args:= #[s,x],argTypes:= #[t,t]}){e:TypeId}{z:Value}{bytes:Nat}(T:MH P t e z bytes)
 (wr:World)(base:Nat)(v:Value)(n:Nat)(xs news:List Value)(hs:a.eval s=v)(hown:wr.ownsRow base e 1 v n xs)(hw:w.heap=wr.heap.push (.cells news.toArray e))
 (hos:w.os=wr.os)(htape:w.tape=wr.tape)(hout:w.output=wr.output)
 (m c:Nat)(hx:a.eval x= .slice (some (Φ wr.heap.size)) m c)(hmn:m=news.length)
 (h1:∀u∈news,u.oneCell'=true)(hm:n+news.length<=1000000000)(hby:bytes<=64)(hbase:base<=wr.heap.size)
 (h:∀v' w',w'.ownsRow base e 1 v' (n+m) (xs++news)->Below base wr w'->Kept wr w' v.ownBlock->wpList P ops Q rest (a.put o.dst v') w'):wpList P ops Q (o::rest) a w:=by
 refine wpList_plain hgd λK hK=> ?_
 obtain⟨v',w',hrun,h2,h3,h4⟩:=o6 T o.type hown hw hos htape hout h1 hm hby hbase m c hmn;unfold Oper.wp execOp;simp only [ho,resolve,invoke,builtin,Sem.run_bind,Sem.run_pure,Result.andThen_ok,List.map_toArray,Cb,Gv,hs,hx,hrun];exact hK _ _ (h v' w' h2 h3 h4)
def own_below{w w':World}{base:Nat}{e:TypeId}{v:Value}{n:Nat}{xs:List Value}(h:w.ownsRow base e 1 v n xs)(hb:η w w'):w'.ownsRow base e 1 v n xs:=
 NU h (row:=none) ⟨hb.size,λk hk _=>hb.block k hk⟩ Θ
def ES{w:World}{base base':Nat}{e:TypeId}{v:Value}{n:Nat}{xs:List Value}(h:w.ownsRow base e 1 v n xs)(hb:base'<=base):w.ownsRow base' e 1 v n xs:=by
 refine⟨h.1,?_⟩;rcases h.2 with h| ⟨g,cap,cur,h1,h2,h3⟩
 ·exact .inl h
 ·exact .inr ⟨g,cap,cur,h1,O,h3⟩
def CP{w:World}{base:Nat}{e:TypeId}{A:Option Addr}{c:Nat}{n:Nat}{xs:List Value}(h:w.ownsRow base e 1 (.slice A n c) n xs):n<=c/\Rd w A n xs:=by
 obtain⟨A',c',e,hc,hr⟩:=CU h;injection e with e1 e2 e3
 subst e1 e3;exact⟨hc,hr⟩
def AU{w:World}{base:Nat}{e:TypeId}{v:Value}{n:Nat}{xs:List Value}(h:w.ownsRow base e 1 v n xs){g:Nat}(hg:g<base)(i:Nat)(u:Value):(w.setCell (Δ g i) u).ownsRow base e 1 v n xs:=
 ownsRow_setCell_below h (a:=Δ g i) hg u
def Ws.cellAt{w:World}{b off n:Nat}{l:List UInt64}(h:Ws w (some (Δ b off)) n l){k:Nat}(hk:k<n)(hl:k<l.length):w.cell? (Δ b (off+k))=some (.int .u64 (l[k].toNat:Int)):=by
 obtain⟨b',off',e,_,hc⟩:=h.2 O;injection e with e
 injection e with e1 e2 e3
 subst e1 e2;rw [hc k hk];simp [hl,wv]
def oC(n:Nat)(h:n<18446744073709551616):wv (Aw n)= .int .u64 (n:Int):=by
 rw [wv,GU (by simpa [Kt]using h)]
def vU(x:Nd)(h:x.kids.length<=4):(Ea x).map wv=splice ((((((BC 8 (0:UInt64)).map wv).set 0 (.int .u64 (1+256*(x.kids.length:Int)))).set 1 (.int .u64 ((Gm x.pre).toNat:Int))).set 2 (.int .u64 (x.val.toNat:Int))).set 3 (.int .u64 ((Gm x.labels).toNat:Int))) 4 (x.kids.map wv):=by
 rw [Ea,if_pos h,encS];have e:wv (Aw (1+256*x.kids.length))= .int .u64 (1+256*(x.kids.length:Int)):=by rw [oC _ O];simp
 simp only [splice,Dx,Cb,Gv,e,BJ,List.map_replicate];obtain⟨r,hr⟩:∃r,r=x.kids.length:=⟨_,rfl⟩;rw [<-hr]at h⊢;have:r=0\/r=1\/r=2\/r=3\/r=4:=O
 rcases this with rfl| rfl| rfl| rfl| rfl<;>simp [BC,wv]
def Abz(x:Nd)(h:x.kids.length<=1000000):(CV (headB x) (x.labels.take 0) (x.kids.take 0)).map wv=((((BC 32 (0:UInt64)).map wv).set 0 (.int .u64 (2+256*(x.kids.length:Int)))).set 1 (.int .u64 ((Gm x.pre).toNat:Int))).set 2 (.int .u64 (x.val.toNat:Int)):=by
 have e:wv (Aw (2+256*x.kids.length))= .int .u64 (2+256*(x.kids.length:Int)):=by rw [oC _ O];simp
 simp only [List.take_zero,CV,headB,Dx,Cb,Gv,e];simp [BC,wv]
def oD(x:Nd)(k:Nat)(h1:k<x.labels.length)(h2:k<x.kids.length):
 (CV (headB x) (x.labels.take (k+1)) (x.kids.take (k+1))).map wv=((CV (headB x) (x.labels.take k) (x.kids.take k)).map wv).set (4+x.labels[k].toNat) (.int .u64 (x.kids[k].toNat:Int)):=by
 rw [Oz _ _ _ k h1 h2,List.map_set];rfl
def Tryz.oG:(prog.info? 28).map (λi=>(i.zero,i.size,i.bytes))=some (some (.int .u64 0),1,8):=by kernel_rfl
def Ajh(x:Nd)(w:World)(e:Ending)(w':World):Prop:=
 η w w'/\(if C9 x then∃v,e= .returned (.tuple #[v,.bool true])/\w'.ownsRow w.heap.size 28 1 v (Ea x).length ((Ea x).map wv)
  else e= .returned (.tuple #[.slice none 0 0,.bool false]))
def Rw(A1 A2 A3:Option Addr)(n1 c1 n2 c2 n3 c3:Nat)(x:Nd)(w:World)(b1:n1<=1000000)(b2:n2<=1000000)(b3:n3<=1000000)(h1:Bs w A1 n1 x.pre)(h2:Bs w A2 n2 x.labels)(h3:Ws w A3 n3 x.kids):
 Calls prog 188 #[.agg #[.slice A1 n1 c1,.int .u64 (x.val.toNat:Int),.slice A2 n2 c2,.slice A3 n3 c3]] w (Ajh x w):=by
 obtain⟨i0,hi,hz0,hz1,hz2⟩:=info_parts Tryz.oG;have hl1:=h1.len;have hl2:=h2.len;have hl3:=h3.len;obtain⟨W,hW,e0,e1,e2,e3,hb,hs⟩:=Afk w 212 (.slice A1 n1 c1) (.int .u64 (x.val.toNat:Int)) (.slice A2 n2 c2) (.slice A3 n3 c3);have g1:=h1.below hb;have g2:=h2.below hb;have g3:=h3.below hb;have HW:=Aa hW;clear hW;have dD:=L6 A1 A2 A3 n1 c1 n2 c2 n3 c3 x W b1 b2 b3 g1 g2 g3;have zL:=Aa dD;clear dD;go_enter func188,ntmps188
 go_wp2_with fail
 rw [<-HW.out];refine zL.out.mono ?_;rintro e W1⟨rfl,hb1⟩;clear zL HW;obtain⟨Aqg,Aqh,Aqi,Aqj,hs1⟩:=Pv e0 e1 e2 e3 O hb1;clear e0 e1 e2 e3;have Gg:η w W1:=τ hb hb1;clear hb hb1 hs g1 g2 g3;cases hR:C9 x with
 | false=>
   have HR:=Aa hR;clear hR
   go_wp2_with fail
   go_ret2;exact⟨Gg,by rw [HR.out];rfl⟩
 | true=>
   have HR:=Aa hR;clear hR
   go_wp2_with fail
   refine(Wp _ _ _ A3 n3 c3 W1 O).mono ?_;rintro e W2⟨rfl,hb2⟩;obtain⟨Aji,Ajj,Ajk,Ajl,hs2⟩:=Pv Aqg Aqh Aqi Aqj hs1 hb2;clear Aqg Aqh Aqi Aqj;have ED:=τ Gg hb2;clear Gg hb2 hs1;by_cases h4:n3<=4
   ·rw [if_pos h4]
    go_wp2_with fail
    refine(Jq 1 W2).mono ?_;rintro e w'⟨rfl,rfl⟩;rw [show Lu 1=8 from rfl]
    go_wp2_with
     (at_make
      refine wpList_make_full _ rfl _ _ 91 rfl w.heap.size 28 i0 (.int .u64 0) 1 underlying91 hi hz0 hz1 .i64 .i64 _ _ 8 rfl rfl rfl rfl (by rw [hz2];omega) U (by exact ED.size) ?_;intro w3 hown3 hgrow3;have hb3:η W2 w3:=(Below.refl _ _).grown hgrow3 (Ad _) Θ;obtain⟨Aqk,Aql,Aqm,Aqn,hs3⟩:=Pv Aji Ajj Ajk Ajl hs2 hb3;clear Aji Ajj Ajk Ajl;have OO:=τ ED hb3;have B3:CS w3 W2.heap.size 28 ((BC 8 (0:UInt64)).map wv):=by rw [<-Lj];exact Zm hown3
      have i0:=B3.has (i:=0) Θ;have i1:=B3.has (i:=1) Θ;have i2:=B3.has (i:=2) Θ;have i3:=B3.has (i:=3) Θ;have f0:=B3.frozen 0;have f1:=B3.frozen 1;have f2:=B3.frozen 2;have f3:=B3.frozen 3;have hne:w.heap.size≠W2.heap.size:=O
      have O4:=ED.size;clear hown3 hgrow3 hb3 ED)
    have hx:=(Bq x).1 HR.out;obtain⟨x1,x2,x3,x4,_,_⟩:=hx;have hp1:=Vk A1 n1 c1 x.pre (w3.setCell (Φ W2.heap.size) (.int .u64 (1+256*(n3:Int)))) O (h1.below (OO.setCell (p:=Φ W2.heap.size) O4 _)) x2;have hP1:=Ve x.pre 15 x1 x2;rw [LV]at hP1;have E1:Hid (((n1+16*Fa x.pre:Nat):Int)=((Gm x.pre).toNat:Int)):=Aa (by rw [Gm,hl1,GU (by simp [Kt];omega)]);rw [E1.out]at hp1;have vV:=Aa hp1;have HL2:Hid (n2<=4):=Aa O;clear hp1 x3 hP1;refine vV.out.mono ?_;rintro e w'⟨rfl,rfl⟩;clear vV
    go_wp2_with fail
    have B4:=((B3.AZ 0 (.int .u64 (1+256*(n3:Int)))).AZ 1 (.int .u64 ((Gm x.pre).toNat:Int))).AZ 2 (.int .u64 (x.val.toNat:Int));have Zn:=((OO.setCell (p:=Φ W2.heap.size) O4 (.int .u64 (1+256*(n3:Int)))).setCell (p:=Δ W2.heap.size 1) O4 (.int .u64 ((Gm x.pre).toNat:Int))).setCell (p:=Δ W2.heap.size 2) O4 (.int .u64 (x.val.toNat:Int));obtain⟨Aqo,Aqp,Aqq,Aqr,hs3⟩:=Qd Aqk Aql Aqm Aqn hs3 hne 0 (.int .u64 (1+256*(n3:Int)));clear Aqk Aql Aqm Aqn;obtain⟨Aqs,Aqt,Aqu,Aqv,hs3⟩:=Qd Aqo Aqp Aqq Aqr hs3 hne 1 (.int .u64 ((Gm x.pre).toNat:Int));clear Aqo Aqp Aqq Aqr;obtain⟨Aqw,Aqx,Aqy,Aqz,hs3⟩:=Qd Aqs Aqt Aqu Aqv hs3 hne 2 (.int .u64 (x.val.toNat:Int));clear Aqs Aqt Aqu Aqv;clear i0 i1 i2 i3 f0 f1 f2 f3 OO B3;generalize(((w3.setCell (Φ W2.heap.size) (.int .u64 (1+256*(n3:Int)))).setCell (Δ W2.heap.size 1) (.int .u64 ((Gm x.pre).toNat:Int))).setCell (Δ W2.heap.size 2) (.int .u64 (x.val.toNat:Int)))=W4 at*;have hp2:=Vk A2 n2 c2 x.labels W4 (Ω HL2.out) (h2.below Zn) x4;have hP2:=Ve x.labels 15 (Ω HL2.out) x4;rw [LV]at hP2;have E2:Hid (((n2+16*Fa x.labels:Nat):Int)=((Gm x.labels).toNat:Int)):=Aa (by rw [Gm,hl2,GU (by have:=HL2.out;simp [Kt];omega)]);rw [E2.out]at hp2;have HP2:=Aa hp2;have i3:=B4.has (i:=3) Θ;have f3:=B4.frozen 3;clear hp2 hP2;refine HP2.out.mono ?_;rintro e w'⟨rfl,rfl⟩;clear HP2;have B5:=B4.AZ 3 (.int .u64 ((Gm x.labels).toNat:Int));have N8:=Zn.setCell (p:=Δ W2.heap.size 3) O4 (.int .u64 ((Gm x.labels).toNat:Int));have hsl:∀W,(Instr.slice 91 (.slice (some (Φ W2.heap.size)) 8 8) (some (.int .i64 4)) none none).run prog W= .ok (.slice (some (Δ W2.heap.size 4)) 4 4) W:=λW=>by
     have:=nS Tryz.Jp (some (Φ W2.heap.size)) 8 8 .i64 4 U W;simpa [UX,Addr.add_lit]using this
    obtain⟨Axd,Axe,Axf,Axg,hs3⟩:=Qd Aqw Aqx Aqy Aqz hs3 hne 3 (.int .u64 ((Gm x.labels).toNat:Int));clear Aqw Aqx Aqy Aqz
    go_wp2_with fail
    clear i3 f3 Zn B4;generalize W4.setCell (Δ W2.heap.size 3) (.int .u64 ((Gm x.labels).toNat:Int))=W5 at*;have g3:Ws W5.drew A3 n3 x.kids:=h3.below N8.drew
    go_region_law(refine step_copy_splice rfl (.tmp 49) (.tmp 51) 91 91 rfl 28 underlying91 Γ (some (Δ W2.heap.size 4)) A3 4 4 n3 c3 (by simp [Act.eval]) (by simp [Act.eval]) W2.heap.size 4 _ 28 B5.drew (x.kids.map wv) (by rw [BJ,hl3];exact(Ny h4).symm) (Aby g3) (by simp [hl3];omega) (PW _) w.heap.size w N8.drew O4 ?_;intro w6 O5 hb6)
    all_goals
     go_wp2;go_ret2;refine⟨hb6,?_⟩;rw [if_pos HR.out];have hB:CS w6 W2.heap.size 28 ((Ea x).map wv):=by
      have h:=O5.out;rw [vU x O];rw [hl3];exact h
     have hlen:((Ea x).map wv).length=8:=by rw [BJ,ER,if_pos O]
     refine⟨_,rfl,?_⟩;have:=hB.own (B:=w.heap.size) O4 (by rw [hlen];decide);rw [hlen]at this;rw [show(Ea x).length=8 by simpa using hlen];exact this
   ·rw [if_neg h4]
    go_wp2_with fail
    refine(Jq 2 W2).mono ?_;rintro e w'⟨rfl,rfl⟩;rw [show Lu 2=32 from rfl]
    go_wp2_with
     (at_make
      refine wpList_make_full _ rfl _ _ 91 rfl w.heap.size 28 i0 (.int .u64 0) 1 underlying91 hi hz0 hz1 .i64 .i64 _ _ 32 rfl rfl rfl rfl (by rw [hz2];omega) U (by exact ED.size) ?_;intro w3 hown3 hgrow3;have hb3:η W2 w3:=(Below.refl _ _).grown hgrow3 (Ad _) Θ;obtain⟨Aq0,Aq1,Aq2,Aq3,hs3⟩:=Pv Aji Ajj Ajk Ajl hs2 hb3;clear Aji Ajj Ajk Ajl;have OO:=τ ED hb3;have B3:CS w3 W2.heap.size 28 ((BC 32 (0:UInt64)).map wv):=by rw [<-Lj];exact Zm hown3
      have i0:=B3.has (i:=0) Θ;have i1:=B3.has (i:=1) Θ;have i2:=B3.has (i:=2) Θ;have i3:=B3.has (i:=3) Θ;have f0:=B3.frozen 0;have f1:=B3.frozen 1;have f2:=B3.frozen 2;have f3:=B3.frozen 3;have hne:w.heap.size≠W2.heap.size:=O
      have O4:=ED.size;clear hown3 hgrow3 hb3 ED)
    have hx:=(Bq x).1 HR.out;obtain⟨x1,x2,x3,x4,_,_⟩:=hx;have hp1:=Vk A1 n1 c1 x.pre (w3.setCell (Φ W2.heap.size) (.int .u64 (2+256*(n3:Int)))) O (h1.below (OO.setCell (p:=Φ W2.heap.size) O4 _)) x2;have hP1:=Ve x.pre 15 x1 x2;rw [LV]at hP1;have E1:Hid (((n1+16*Fa x.pre:Nat):Int)=((Gm x.pre).toNat:Int)):=Aa (by rw [Gm,hl1,GU (by simp [Kt];omega)]);rw [E1.out]at hp1;have vV:=Aa hp1;clear hp1 hP1;refine vV.out.mono ?_;rintro e w'⟨rfl,rfl⟩;clear vV
    go_wp2_with fail
    have B4:=((B3.AZ 0 (.int .u64 (2+256*(n3:Int)))).AZ 1 (.int .u64 ((Gm x.pre).toNat:Int))).AZ 2 (.int .u64 (x.val.toNat:Int));have Zn:=((OO.setCell (p:=Φ W2.heap.size) O4 (.int .u64 (2+256*(n3:Int)))).setCell (p:=Δ W2.heap.size 1) O4 (.int .u64 ((Gm x.pre).toNat:Int))).setCell (p:=Δ W2.heap.size 2) O4 (.int .u64 (x.val.toNat:Int));obtain⟨Aq4,Aq5,Aq6,Aq7,hs3⟩:=Qd Aq0 Aq1 Aq2 Aq3 hs3 hne 0 (.int .u64 (2+256*(n3:Int)));clear Aq0 Aq1 Aq2 Aq3;obtain⟨Amb,Amc,Amd,Ame,hs3⟩:=Qd Aq4 Aq5 Aq6 Aq7 hs3 hne 1 (.int .u64 ((Gm x.pre).toNat:Int));clear Aq4 Aq5 Aq6 Aq7;obtain⟨Amf,Amg,Amh,Ami,hs3⟩:=Qd Amb Amc Amd Ame hs3 hne 2 (.int .u64 (x.val.toNat:Int));clear Amb Amc Amd Ame;clear i0 i1 i2 i3 f0 f1 f2 f3 OO B3;generalize(((w3.setCell (Φ W2.heap.size) (.int .u64 (2+256*(n3:Int)))).setCell (Δ W2.heap.size 1) (.int .u64 ((Gm x.pre).toNat:Int))).setCell (Δ W2.heap.size 2) (.int .u64 (x.val.toNat:Int)))=W4 at*;have hrow:CS W4 W2.heap.size 28 ((CV (headB x) (x.labels.take 0) (x.kids.take 0)).map wv):=by
     rw [Abz x O,hl3];exact B4
    clear B4;have Aut:n2=n3:=O
    have HX4:=Aa x4;clear x4 x3 x2;subst Aut
    go_wp2_with fail
    go_loopw [57](λi wr=>∃k:Nat,k<=n2/\i= .int .i64 k/\CS wr W2.heap.size 28 ((CV (headB x) (x.labels.take k) (x.kids.take k)).map wv)/\Below W2.heap.size W4 wr)(λi _=>n2- (intOf i).toNat)
    case atStart=>exact⟨0,BU _,rfl,hrow,Below.refl _ _⟩
    case round=>
     obtain⟨k,hk,rfl,hrow,hbr⟩:=hrel;obtain⟨Aq8,Aq9,Ara,Arb,hs3⟩:=Abx Amf Amg Amh Ami hs2 hbr;clear Amf Amg Amh Ami;have Anb:η w wr:=Zn.trans (hbr.mono O4);by_cases hlt:k<n2
     ·obtain⟨hq2,p2,Aje,rfl,_,hc2⟩:=(h2.below Anb).at hlt;obtain⟨hq3,p3,Arc,rfl,_,hc3⟩:=(h3.below Anb).at hlt;have h16:=Y1 HX4.out hq2;have hlen:((CV (headB x) (x.labels.take k) (x.kids.take k)).map wv).length=32:=by simp [NS,headB]
      have ic:=hrow.has (i:=4+x.labels[k].toNat) (by rw [hlen];omega);have fc:=hrow.frozen (4+x.labels[k].toNat);have hrow2:=hrow.AZ (4+x.labels[k].toNat) (.int .u64 (x.kids[k].toNat:Int));rw [<-oD x k hq2 hq3]at hrow2;have HR2:=Aa hrow2;have HB2:=Aa (hbr.setCell (p:=Δ W2.heap.size (4+x.labels[k].toNat)) (Ad _) (.int .u64 (x.kids[k].toNat:Int)));clear hrow hrow2 hbr;go_wp2;go_roundw
      case rel=>exact⟨k+1,O,by go_num,HR2.out,HB2.out⟩
      case measure=>simp [intOf];omega
     ·have hkn:k=n2:=O
      subst hkn;have hfin:(CV (headB x) (x.labels.take k) (x.kids.take k)).map wv=(Ea x).map wv:=by
       rw [Ea,if_neg O,Rt,FM O,FM O]
      rw [hfin]at hrow;have hlen:((Ea x).map wv).length=32:=by rw [BJ,ER,if_neg O]
      have HO:=Aa (hrow.own (B:=w.heap.size) O4 (by rw [hlen];decide));have HLE:=Aa hlen;clear hrow hbr hfin hlen Aq8 Aq9 Ara Arb;go_wp2;go_ret2;refine⟨Anb,?_⟩;rw [if_pos HR.out];refine⟨_,rfl,?_⟩;have:=HO.out;rw [HLE.out]at this;rw [show(Ea x).length=32 by simpa using HLE.out];exact this
def Qe (A B : Option Addr) (n m c d : Nat) (a b : List UInt64) (w : World) (hn : n <= 4294967296) (_hm : m <= 4294967296) (ha : Ws w A n a) (hb : Ws w B m b) :
    Calls prog 35 #[.slice A n c, .slice B m d] w λe w' => e = .returned (.bool (decide (a = b))) /\ Dr w w' := by
  have hla := ha.len
  have hlb := hb.len
  by_cases hnm : n = m
  · subst hnm
    have t1 : ((n : Int) != (n : Int)) = false := by simp
    go_enter func35, ntmps35
    go_wp2
    go_loopw [13] (λi wr => ∃ k : Nat, k <= n /\ i = .int .i64 k /\ (∀ j (h1 : j < a.length) (h2 : j < b.length), j < k -> a[j] = b[j]) /\ Dr w wr) (λi _ => n - (intOf i).toNat)
    case atStart => exact ⟨0, BU _, rfl, λj _ _ h => absurd h O, Dr.refl _⟩
    case round =>
      obtain ⟨k, hk, rfl, heq, q, rfl⟩ := hrel
      by_cases hlt : k < n
      · obtain ⟨hq, p, off, rfl, hp, hc⟩ := ha.at hlt
        obtain ⟨hq2, p2, Aje, rfl, hp2, hc2⟩ := hb.at hlt
        by_cases he : a[k] = b[k]
        · have t2 : (((a[k].toNat : Int)) != (b[k].toNat : Int)) = false := by simp [he]
          have HE : Hid (∀ j (h1 : j < a.length) (h2 : j < b.length), j < k + 1 -> a[j] = b[j]) := Aa λj h1 h2 hj => by
            by_cases e : j = k
            · subst e; exact he
            · exact heq j h1 h2 O
          clear heq he
          go_wp2
          go_quiet (fail)
          go_wp2
          go_roundw
          case rel => exact ⟨k + 1, O, by go_num, HE.out, by first | exact Dr.one _ _ | exact Dr.two _ _ _⟩
          case measure => simp [intOf]; omega
        · have t2 : (((a[k].toNat : Int)) != (b[k].toNat : Int)) = true := by
            rw [bne_iff_ne]; intro e; exact he (UInt64.toNat_inj.1 O)
          have HD : Hid (decide (a = b) = false) := Aa (by rw [decide_eq_false_iff_not]; intro e; subst e; exact he rfl)
          clear heq he
          go_wp2
          go_quiet (fail)
          go_wp2
          go_ret
          exact ⟨by rw [HD.out]; rfl, by first | exact Dr.one _ _ | exact Dr.two _ _ _⟩
      · have hkn : k = n := O
        subst hkn
        have HD : Hid (decide (a = b) = true) := Aa (by
          rw [decide_eq_true_iff]
          apply List.ext_getElem O
          intro j h1 h2
          exact heq j h1 h2 O)
        clear heq
        go_wp2
        go_ret
        exact ⟨by rw [HD.out]; rfl, Dr.one _ _⟩
  · have t1 : ((n : Int) != (m : Int)) = true := by simp; omega
    have HD : Hid (decide (a = b) = false) := Aa (by rw [decide_eq_false_iff_not]; intro e; subst e; omega)
    go_enter func35, ntmps35
    go_wp2
    go_ret
    exact ⟨by rw [HD.out]; rfl, Dr.refl _⟩
def zM(lb:List UInt8)(ks:List UInt64)(w:World)(e:Ending)(w':World):Prop:=
 η w w'/\∃A1 c1 A2 c2,e= .returned (.tuple #[.slice A1 lb.length c1,.slice A2 ks.length c2])/\w'.ownsRow w.heap.size 5 1 (.slice A1 lb.length c1) lb.length (lb.map bv)/\w'.ownsRow w.heap.size 28 1 (.slice A2 ks.length c2) ks.length (ks.map wv)
def Ws.sub{w:World}{A:Option Addr}{n:Nat}{l:List UInt64}(h:Ws w A n l){c lo hi:Nat}(h1:lo<=hi)(h2:hi<=n)(hc:n<=c):Ws w (UX A c lo) (hi-lo) ((l.drop lo).take (hi-lo)):=by
 have:=Rd.sub h h1 h2 hc
 rwa [<-List.map_drop,<-List.map_take]at this
def Ab0(A:Option Addr)(c:Nat)(l:List UInt64)(w:World)(hc:8<=c)(h:Ws w A 8 l)(u:UInt64)(hu:l[3]? =some u):
 Calls prog 196 #[.slice A 8 c] w (zM (Jf u.toNat (l.drop 4)).1 (Jf u.toNat (l.drop 4)).2 w):=by
 have hlen:=h.len;obtain⟨hq,b,off,rfl,hb,hc3⟩:=h.at (show 3<8 by decide);have hu':l[3]=u:=by rw [Af hq]at hu;injection hu
 rw [hu']at hc3;have hun:=Zl u.toNat w (by have:=u.toNat_lt;simpa [Kt]using this);have HU:=Aa hun;clear hun hu';go_enter func196,ntmps196
 go_wp2_with fail
 refine HU.out.mono ?_;rintro e w1⟨hb1,hu1⟩;clear HU hc3;have hm:=Nat.mod_lt u.toNat (show 0<16 by decide);by_cases hz:u.toNat/16/16^(u.toNat%16)=0
 ·rw [if_pos hz]at hu1;obtain⟨v1,rfl,ho1⟩:=hu1;obtain⟨A1,c1,rfl,hc1,hr1⟩:=CU ho1;by_cases h4:u.toNat%16<=4
  ·have Jy:Jf u.toNat (l.drop 4)=(digits (u.toNat%16) (u.toNat/16),(l.drop 4).take (u.toNat%16)):=by rw [Jf,if_pos ⟨hz,h4⟩]
   have HC:=Aa Jy;have HR1:Hid (w1.ownsRow w.heap.size 5 1 (.slice A1 (u.toNat%16) c1) (u.toNat%16) ((digits (u.toNat%16) (u.toNat/16)).map bv)):=Aa ho1;obtain⟨m,hmm⟩:∃m,m=u.toNat%16:=⟨_,rfl⟩;have hw1:=h.below hb1;have hsub:=Ws.sub hw1 (c:=c) (lo:=4) (hi:=4+m) O O hc;rw [<-hmm]at hc1 h4⊢;have HMM:=Aa hmm;have hsl:=zH Tryz.Jp (some (Δ b off)) 8 c .i64 .i64 4 (4+m) O O;rw [show 4+m-4=m by omega]at hsl hsub;have hcl:=Zk (UX (some (Δ b off)) c 4) m (c-4) _ w1 O hsub;have HCL:=Aa hcl;have e4:((4:Nat):Int)=4:=rfl;have e4m:((4+m:Nat):Int)=4+(m:Int):=O
   simp only [e4,e4m]at hsl;have d4:decide (4<(m:Int))=false:=by simp;omega
   clear hz Jy ho1 hr1 hmm hcl hsub e4 e4m
   go_wp2_with fail
   refine HCL.out.mono ?_;rintro e w2⟨v2,rfl,ho2,hb2⟩;obtain⟨A2,c2,rfl,hc2,hr2⟩:=CU ho2;have SY:=Aa (ES ho2 hb1.size);clear HCL ho2 hr2 hc2
   go_wp2_with fail
   go_ret2;have hl1:((l.drop 4).take m).length=m:=by simp [hlen];omega
   refine⟨τ hb1 hb2,?_⟩;rw [HC.out]
   dsimp only
   rw [<-HMM.out,digits_length,hl1];refine⟨A1,c1,A2,c2,rfl,?_,SY.out⟩;have:=own_below HR1.out hb2;rw [<-HMM.out]at this;exact this
  ·have Jy:Jf u.toNat (l.drop 4)=([],[]):=by rw [Jf,if_neg (λe=>h4 e.2)]
   have HC:=Aa Jy;have d4:decide (4<((u.toNat%16:Nat):Int))=true:=by simp;omega
   generalize u.toNat%16=m at*;clear hz Jy
   go_wp2_with fail
   go_ret2;refine⟨hb1,?_⟩;rw [HC.out];exact⟨none,0,none,0,rfl,Fp _ _ _ _,Fp _ _ _ _⟩
 ·rw [if_neg hz]at hu1;subst hu1;have Jy:Jf u.toNat (l.drop 4)=([],[]):=by rw [Jf,if_neg (λe=>hz e.1)]
  have HC:=Aa Jy;clear hz Jy
  go_wp2_with fail
  go_ret2;refine⟨hb1,?_⟩;rw [HC.out];exact⟨none,0,none,0,rfl,Fp _ _ _ _,Fp _ _ _ _⟩
def Ajm(A:Option Addr)(c:Nat)(l:List UInt64)(w:World)(hc:32<=c)(h:Ws w A 32 l):
 Calls prog 197 #[.slice A 32 c] w (zM (Jw 0 ((l.drop 4).take 16)) (Kw ((l.drop 4).take 16)) w):=by
 have hlen:=h.len;obtain⟨_,b,off,rfl,_,_⟩:=h.at (show 0<32 by decide);have hsl:=zH Tryz.Jp (some (Δ b off)) 32 c .i64 .i64 4 20 O O;have hsb:UX (some (Δ b off)) c 4=some (Δ b (off+4)):=by rw [UX,if_neg O];simp [Addr.add_lit]
 rw [hsb]at hsl;have e4:((4:Nat):Int)=4:=rfl;have e20:((20:Nat):Int)=20:=rfl;simp only [e4,e20]at hsl;have ht:Ws w (some (Δ b (off+4))) 16 ((l.drop 4).take 16):=by
  have:=Ws.sub h (c:=c) (lo:=4) (hi:=20) O O hc
  rwa [hsb]at this
 clear hsb e4 e20 hlen;generalize(l.drop 4).take 16=t at*;have htl:=ht.len;go_enter func197,ntmps197;go_wp2
 go_loopw [4,5,11](λv4 v5 i wr=>∃k:Nat,k<=16/\i= .int .i64 k/\wr.ownsRow w.heap.size 5 1 v4 (Jw 0 (t.take k)).length ((Jw 0 (t.take k)).map bv)/\wr.ownsRow w.heap.size 28 1 v5 (Kw (t.take k)).length ((Kw (t.take k)).map wv)/\η w wr)(λ_ _ i _=>16- (intOf i).toNat)
 case atStart=>exact⟨0,BU _,rfl,Fp _ _ _ _,Fp _ _ _ _,Below.refl _ _⟩
 case round=>
  obtain⟨k,hk,rfl,Yl,UM,hbr⟩:=hrel;have hsz:=hbr.size;by_cases hlt:k<16
  ·have htr:=ht.below hbr;obtain⟨hq,b',off',e',_,hcc⟩:=htr.at hlt;injection e' with e'
   injection e' with e1 e2 e3
   subst e1 e2;have hsn:t.take (k+1)=t.take k++[t[k]]:=List.take_succ_eq_append_getElem hq;have hcB:=YZ 0 (t.take k) t[k];have hcK:=vG (t.take k) t[k];rw [<-hsn,List.length_take,Ny O,DR]at hcB;rw [<-hsn]at hcK;have hlK:(Kw (t.take k)).length<=16:=by have:=Za (t.take k);simp at this;omega
   have hlB:(Jw 0 (t.take k)).length<=16:=by rw [O0];exact hlK
   by_cases h0:t[k].toNat=0
   ·rw [if_pos h0,List.append_nil]at hcB hcK;have t1:((t[k].toNat:Int)!=0)=false:=by simp [h0]
    have HB:=Aa hcB;have HK:=Aa hcK;have bY:=Aa Yl;have fE:=Aa UM;clear hcB hcK h0 Yl UM htr e3 hsn;go_wp2;go_roundw
    case rel=>exact⟨k+1,O,by go_num,by rw [HB.out];exact bY.out,by rw [HK.out];exact fE.out,hbr⟩
    case measure=>simp [intOf];omega
   ·rw [if_neg h0]at hcB hcK;have t1:((t[k].toNat:Int)!=0)=true:=by simp;omega
    have HB:=Aa hcB;have HK:=Aa hcK;have hu8:Au .u8 (k:Int)=bv (UInt8.ofNat k):=by simp only [bv,UInt8.toNat_ofNat'];congr 1;omega
    have HU8:=Aa hu8;have hap:=NJ Yl UM U;have hap':∀g,u5.ownBlock=some g->u4.ownBlock≠some g:=λg h5 h4=>hap g h4 h5
    generalize hnB:(Jw 0 (t.take k)).length=nB at*;generalize hnK:(Kw (t.take k)).length=nK at*;clear hcB hcK h0 htr e3 hsn hu8 hap
    go_wp2_with(first
     | (at_builtin
        refine IG rfl (.tmp 18) (.tmp 21) 22 rfl Tryz.Gq wr w.heap.size u4 nB ((Jw 0 (t.take k)).map bv) [.int .u8 (k:Int)] rfl Yl rfl rfl rfl rfl 1 1 rfl rfl (by simp [Aiz]) (by simp;omega) U hsz ?_;intro v4' w4 Ard hb4 hk4;have Arf:=NU UM hk4 hap';have oH:w.heap.size<=w4.heap.size:=Bc hsz hb4.size)
     | (at_builtin
        refine IG rfl (.tmp 23) (.tmp 25) 91 rfl Tryz.Jp w4 w.heap.size u5 nK ((Kw (t.take k)).map wv) [.int .u64 (t[k].toNat:Int)] rfl Arf rfl rfl rfl rfl 1 1 rfl rfl (by simp [Aiz]) (by simp;omega) U oH ?_;intro v5' w5 Arh hb5 hk5;have Amj:=NU Ard hk5 (NJ Ard Arf U)))
    go_roundw
    case rel=>
     refine⟨k+1,O,by go_num,?_,?_,hbr.trans (hb4.trans hb5)⟩
     ·rw [HB.out,AQ,hnB,Dx];rw [HU8.out]at Amj;exact Amj
     ·rw [HK.out,AQ,hnK,Dx];exact Arh
    case measure=>simp [intOf];omega
  ·have hkn:k=16:=O
   subst hkn;rw [FM O]at Yl UM;obtain⟨A1,c1,hv4,hc1,hr1⟩:=CU Yl;obtain⟨A2,c2,hv5,hc2,hr2⟩:=CU UM;subst hv4 hv5;have bY:=Aa Yl;have fE:=Aa UM;clear Yl UM;go_wp2;go_ret2;exact⟨hbr,A1,c1,A2,c2,rfl,bY.out,fE.out⟩
def Um{w:World}{base base' size n:Nat}{e:TypeId}{v:Value}{xs:List Value}(h:w.ownsRow base e size v n xs)(hb:base'<=base):w.ownsRow base' e size v n xs:=
 ⟨h.1,h.2.elim Or.inl (λ⟨g,cap,cur,hv,hg,r⟩=>Or.inr ⟨g,cap,cur,hv,Bc hb hg,r⟩)⟩
def Y3(l:List UInt64)(w:World)(e:Ending)(w':World):Prop:=
 η w w'/\(if IX l then∃A1 c1 A2 c2 A3 c3,e= .returned (.tuple #[.agg #[.slice A1 (EY l).pre.length c1,.int .u64 ((EY l).val.toNat:Int),.slice A2 (EY l).labels.length c2,.slice A3 (EY l).kids.length c3],.bool true])/\
  (EY l).pre.length<=c1/\(EY l).labels.length<=c2/\(EY l).kids.length<=c3/\Bs w' A1 (EY l).pre.length (EY l).pre/\Bs w' A2 (EY l).labels.length (EY l).labels/\Ws w' A3 (EY l).kids.length (EY l).kids/\w'.ownsRow w.heap.size 5 1 (.slice A1 (EY l).pre.length c1) (EY l).pre.length ((EY l).pre.map bv)/\w'.ownsRow w.heap.size 5 1 (.slice A2 (EY l).labels.length c2) (EY l).labels.length ((EY l).labels.map bv)/\w'.ownsRow w.heap.size 28 1 (.slice A3 (EY l).kids.length c3) (EY l).kids.length ((EY l).kids.map wv)
  else e= .returned (.tuple #[.agg #[.slice none 0 0,.int .u64 0,.slice none 0 0,.slice none 0 0],.bool false]))
def X7(u:Nat)(w:World)(hu:u<18446744073709551616):
 Calls prog 198 #[.int .u64 (u:Int)] w λe w'=>η w w'/\∃A c b,e= .returned (.tuple #[.slice A (Em u).length c,.bool b])/\w'.ownsRow w.heap.size 5 1 (.slice A (Em u).length c) (Em u).length ((Em u).map bv):=by
 refine(Zl u w hu).mono ?_;rintro e w'⟨hb,h⟩;refine⟨hb,?_⟩;by_cases hz:u/16/16^(u%16)=0
 ·rw [if_pos hz]at h;obtain⟨v,rfl,ho⟩:=h;obtain⟨A,c,rfl,hc,hr⟩:=CU ho;have e1:Em u=digits (u%16) (u/16):=by rw [Em,if_pos hz]
  rw [e1,digits_length];exact⟨A,c,true,rfl,ho⟩
 ·rw [if_neg hz]at h;subst h;have e1:Em u=[]:=by rw [Em,if_neg hz]
  rw [e1];exact⟨none,0,false,rfl,Fp _ _ _ _⟩
def blk4{w:World}{g:Nat}{e:TypeId}{a b c d:Value}(h:CS w g e [a,b,c,d]):
 w.cell? (Φ g)=some a/\w.cell? (Δ g 1)=some b/\w.cell? (Δ g 2)=some c/\w.cell? (Δ g 3)=some d/\
 w.frozen? (Φ g)=false/\w.frozen? (Δ g 1)=false/\w.frozen? (Δ g 2)=false/\w.frozen? (Δ g 3)=false:=
 ⟨h.cell 0,h.cell 1,h.cell 2,h.cell 3,h.frozen 0,h.frozen 1,h.frozen 2,h.frozen 3⟩
def CS.far{w:World}{g g':Nat}{e:TypeId}{xs:List Value}(h:CS w g e xs)(hne:g≠g')(i:Nat)(u:Value):CS (w.setCell (Δ g' i) u) g e xs:=
 (Below.heap_setCell w (Δ g' i) u g hne).trans h
def Wq(w:World)(t:TypeId)(z:Value)(y:Value):∃W,W=(w.alloc (.cells #[z,y,z,z] t)).alloc (.cells #[z,y,z,z] t)/\CS W w.heap.size t [z,y,z,z]/\CS W (w.heap.size+1) t [z,y,z,z]/\
 η w W/\W.heap.size=w.heap.size+2:=by
 refine⟨_,rfl,?_,?_,((Below.refl _ _).alloc (Ad _) _).alloc Θ _,by simp⟩
 ·have:CS (w.alloc (.cells #[z,y,z,z] t)) w.heap.size t [z,y,z,z]:=heap_alloc_new w _;exact(Below.heap_alloc _ _ _ Θ).trans this
 ·have:CS ((w.alloc (.cells #[z,y,z,z] t)).alloc (.cells #[z,y,z,z] t)) (w.alloc (.cells #[z,y,z,z] t)).heap.size t [z,y,z,z]:=heap_alloc_new _ _;simpa using this
def Ajn(A:Option Addr)(c:Nat)(l:List UInt64)(w:World)(hc:8<=c)(h:Ws w A 8 l):
 Calls prog 181 #[.slice A 8 c] w (Y3 l w):=by
 have hlen:=h.len;obtain⟨hq1,b,off,rfl,hb0,hc1⟩:=h.at (show 1<8 by decide);go_enter func181,ntmps181
 go_wp2_with(go_at_call 180;refine(Jq 1 _).mono ?_;rintro e w'⟨rfl,rfl⟩;rw [show Lu 1=8 from rfl])
 obtain⟨W,hW,B1,B2,hbW,hsW⟩:=Wq w 212 (.slice none 0 0) (.int .u64 0);rw [<-hW];clear hW;have q3:3<l.length:=O
 have hsm:=Ab0 (some (Δ b off)) c l W hc (h.below hbW) l[3] (Af q3);have HSM:=Aa hsm;clear hsm;refine HSM.out.mono ?_;rintro e w1⟨hb1,A2,c2,A3,c3,rfl,r2,r3⟩;have R2:=Aa r2;have R3:=Aa r3;clear r2 r3;clear HSM;replace B1:=B1.below hb1 O;replace B2:=B2.below hb1 O;obtain⟨y0,y1,y2,y3,f0,f1,f2,f3⟩:=blk4 B2;have Gg:=τ hbW hb1;have hx1:w1.cell? (Δ b (off+1))=some (.int .u64 (l[1].toNat:Int)):=(Gg.cell (p:=Δ b (off+1)) hb0).trans hc1;have hne:b≠w.heap.size+1:=O
 go_wp2_with fail
 have Jy:EY l={pre:=Em l[1].toNat,val:=l[2],labels:=(Jf l[3].toNat (l.drop 4)).1,kids:=(Jf l[3].toNat (l.drop 4)).2}:=by
  rw [EY,if_pos hlen,Afg];simp [UK,show 1<l.length by omega,show 2<l.length by omega,show 3<l.length by omega]
 have hlk2:(Jf l[3].toNat (l.drop 4)).1.length<=15:=by unfold Jf;split<;>simp [digits_length];omega
 have Ari:(Jf l[3].toNat (l.drop 4)).2.length<=15:=by unfold Jf;split<;>simp;omega
 have r2:=R2.out;have r3:=R3.out;clear R2 R3;generalize(Jf l[3].toNat (l.drop 4)).1=lb at*;generalize(Jf l[3].toNat (l.drop 4)).2=ks at*;have hlp:=fA l[1].toNat;have B2':=(B2.AZ 2 (.slice A2 lb.length c2)).AZ 3 (.slice A3 ks.length c3);have B1':=(B1.far (g':=w.heap.size+1) O 2 (.slice A2 lb.length c2)).far (g':=w.heap.size+1) O 3 (.slice A3 ks.length c3);have ED:=(Gg.setCell (p:=Δ (w.heap.size+1) 2) Θ (.slice A2 lb.length c2)).setCell (p:=Δ (w.heap.size+1) 3) Θ (.slice A3 ks.length c3);have r2':=AU (AU r2 (g:=w.heap.size+1) O 2 (.slice A2 lb.length c2)) (g:=w.heap.size+1) O 3 (.slice A3 ks.length c3);have r3':=AU (AU r3 (g:=w.heap.size+1) O 2 (.slice A2 lb.length c2)) (g:=w.heap.size+1) O 3 (.slice A3 ks.length c3);have hs2:w.heap.size+2<=((w1.setCell (Δ (w.heap.size+1) 2) (.slice A2 lb.length c2)).setCell (Δ (w.heap.size+1) 3) (.slice A3 ks.length c3)).heap.size:=by
  have:=hb1.size;simp only [D8,Pg];omega
 clear r2 r3 B1 B2 Gg y0 y1 y2 y3 f0 f1 f2 f3 hx1 hb1;generalize(w1.setCell (Δ (w.heap.size+1) 2) (.slice A2 lb.length c2)).setCell (Δ (w.heap.size+1) 3) (.slice A3 ks.length c3)=W2 at*;refine(X7 l[1].toNat W2 (by have:=l[1].toNat_lt;simpa [Kt]using this)).mono ?_;rintro e w3⟨hb3,A1,c1,b1,rfl,r1⟩;replace B1':=B1'.ξ hb3;replace B2':=B2'.ξ hb3;have OO:=τ ED hb3;obtain⟨y0,y1,y2,y3,f0,f1,f2,f3⟩:=blk4 B2';have hx2:w3.cell? (Δ b (off+2))=some (.int .u64 (l[2].toNat:Int)):=(OO.cell (p:=Δ b (off+2)) hb0).trans (h.cellAt U O)
 go_wp2_with fail
 have L8:=(B2'.AZ 0 (.slice A1 (Em l[1].toNat).length c1)).AZ 1 (.int .u64 (l[2].toNat:Int));have JR:=(B1'.far (g':=w.heap.size+1) O 0 (.slice A1 (Em l[1].toNat).length c1)).far (g':=w.heap.size+1) O 1 (.int .u64 (l[2].toNat:Int));have Zn:=(OO.setCell (p:=Φ (w.heap.size+1)) Θ (.slice A1 (Em l[1].toNat).length c1)).setCell (p:=Δ (w.heap.size+1) 1) Θ (.int .u64 (l[2].toNat:Int));have s2:=AU (AU (own_below r2' hb3) (g:=w.heap.size+1) O 0 (.slice A1 (Em l[1].toNat).length c1)) (g:=w.heap.size+1) O 1 (.int .u64 (l[2].toNat:Int));have s3:=AU (AU (own_below r3' hb3) (g:=w.heap.size+1) O 0 (.slice A1 (Em l[1].toNat).length c1)) (g:=w.heap.size+1) O 1 (.int .u64 (l[2].toNat:Int));have s1:=AU (AU r1 (g:=w.heap.size+1) O 0 (.slice A1 (Em l[1].toNat).length c1)) (g:=w.heap.size+1) O 1 (.int .u64 (l[2].toNat:Int));clear r1 r2' r3' B1' B2' ED OO y0 y1 y2 y3 f0 f1 f2 f3 hx2;generalize(w3.setCell (Φ (w.heap.size+1)) (.slice A1 (Em l[1].toNat).length c1)).setCell (Δ (w.heap.size+1) 1) (.int .u64 (l[2].toNat:Int))=W4 at*;have hen:=Rw A1 A2 A3 (Em l[1].toNat).length c1 lb.length c2 ks.length c3 (EY l) W4 O O O (by rw [Jy];exact(CP s1).2) (by rw [Jy];exact(CP s2).2) (by rw [Jy];exact(CP s3).2);rw [show(EY l).val=l[2]by rw [Jy]]at hen;have HEN:=Aa hen;have HC:=Aa Jy;clear hen Jy;obtain⟨y0,y1,y2,y3,f0,f1,f2,f3⟩:=blk4 L8
 go_wp2_with fail
 refine HEN.out.mono ?_;rintro e w5⟨hb5,hE⟩;clear HEN y0 y1 y2 y3 f0 f1 f2 f3;replace JR:=JR.ξ hb5;replace L8:=L8.ξ hb5;obtain⟨y0,y1,y2,y3,f0,f1,f2,f3⟩:=blk4 L8;obtain⟨z0,z1,z2,z3,k0,k1,k2,k3⟩:=blk4 JR;have N8:=τ Zn hb5;cases hR:C9 (EY l)with
 | false=>
   rw [hR]at hE;subst hE;have HD:Hid (IX l=false):=Aa (by rw [IX,hR];simp);clear hR
   go_wp2_with fail
   have BF:=((((JR.AZ 0 (Ac none 0 0)).AZ 1 (Au .u64 0)).AZ 2 (Ac none 0 0)).AZ 3 (Ac none 0 0));have Ld:=(((N8.setCell (p:=Φ w.heap.size) (Ad _) (Ac none 0 0)).setCell (p:=Δ w.heap.size 1) (Ad _) (Au .u64 0)).setCell (p:=Δ w.heap.size 2) (Ad _) (Ac none 0 0)).setCell (p:=Δ w.heap.size 3) (Ad _) (Ac none 0 0);generalize(((w5.setCell (Φ w.heap.size) (Ac none 0 0)).setCell (Δ w.heap.size 1) (Au .u64 0)).setCell (Δ w.heap.size 2) (Ac none 0 0)).setCell (Δ w.heap.size 3) (Ac none 0 0)=WF at*;obtain⟨p0,p1,p2,p3,_⟩:=blk4 BF;refine bodyPost_ret (v:= .tuple #[.agg #[Ac none 0 0,Au .u64 0,Ac none 0 0,Ac none 0 0],.bool false]) (by simp [results,results181,go_sem,p0,p1,p2,p3]) rfl ?_;exact⟨Ld,by rw [HD.out];rfl⟩
 | true=>
   rw [hR,if_pos rfl]at hE;obtain⟨v5,rfl,UM⟩:=hE;obtain⟨A5,c5,rfl,_,mV⟩:=CU UM;have heq:=Qe A5 (some (Δ b off)) (Ea (EY l)).length 8 c5 c (Ea (EY l)) l w5 (by rw [ER];split<;>decide) U mV (h.below N8);have hnn:(Ea (EY l)).length<=32:=by rw [ER];split<;>decide
   generalize(Ea (EY l)).length=n5 at*;have uJ:=Aa heq;clear heq UM mV;by_cases he:Ea (EY l)=l
   ·have HD:Hid (IX l=true):=Aa (by rw [IX,hR];simp [hlen,he]);have HE:Hid (decide (Ea (EY l)=l)=true):=Aa (by simp [he]);clear he hR
    go_wp2_with fail
    refine uJ.out.mono ?_;rintro e w6⟨rfl,hdr⟩;have hb6:η w5 w6:=hdr.below _;replace JR:=JR.ξ hb6;replace L8:=L8.ξ hb6;replace N8:=τ N8 hb6;clear y0 y1 y2 y3 f0 f1 f2 f3 z0 z1 z2 z3 k0 k1 k2 k3 hdr;obtain⟨y0,y1,y2,y3,f0,f1,f2,f3⟩:=blk4 L8;obtain⟨z0,z1,z2,z3,k0,k1,k2,k3⟩:=blk4 JR;rw [HE.out];clear uJ HE
    go_wp2_with fail
    have BF:=((((JR.AZ 0 (Ac A1 (Em l[1].toNat).length c1)).AZ 1 (Au .u64 (l[2].toNat:Int))).AZ 2 (Ac A2 lb.length c2)).AZ 3 (Ac A3 ks.length c3));have Ld:=(((N8.setCell (p:=Φ w.heap.size) (Ad _) (Ac A1 (Em l[1].toNat).length c1)).setCell (p:=Δ w.heap.size 1) (Ad _) (Au .u64 (l[2].toNat:Int))).setCell (p:=Δ w.heap.size 2) (Ad _) (Ac A2 lb.length c2)).setCell (p:=Δ w.heap.size 3) (Ad _) (Ac A3 ks.length c3);have S1:=AU (AU (AU (AU (own_below (own_below s1 hb5) hb6) (g:=w.heap.size) O 0 (Ac A1 (Em l[1].toNat).length c1)) (g:=w.heap.size) O 1 (Au .u64 (l[2].toNat:Int))) (g:=w.heap.size) O 2 (Ac A2 lb.length c2)) (g:=w.heap.size) O 3 (Ac A3 ks.length c3);have S2:=AU (AU (AU (AU (own_below (own_below s2 hb5) hb6) (g:=w.heap.size) O 0 (Ac A1 (Em l[1].toNat).length c1)) (g:=w.heap.size) O 1 (Au .u64 (l[2].toNat:Int))) (g:=w.heap.size) O 2 (Ac A2 lb.length c2)) (g:=w.heap.size) O 3 (Ac A3 ks.length c3);have S3:=AU (AU (AU (AU (own_below (own_below s3 hb5) hb6) (g:=w.heap.size) O 0 (Ac A1 (Em l[1].toNat).length c1)) (g:=w.heap.size) O 1 (Au .u64 (l[2].toNat:Int))) (g:=w.heap.size) O 2 (Ac A2 lb.length c2)) (g:=w.heap.size) O 3 (Ac A3 ks.length c3);generalize(((w6.setCell (Φ w.heap.size) (Ac A1 (Em l[1].toNat).length c1)).setCell (Δ w.heap.size 1) (Au .u64 (l[2].toNat:Int))).setCell (Δ w.heap.size 2) (Ac A2 lb.length c2)).setCell (Δ w.heap.size 3) (Ac A3 ks.length c3)=WF at*;obtain⟨p0,p1,p2,p3,_⟩:=blk4 BF;refine bodyPost_ret (v:= .tuple #[.agg #[Ac A1 (Em l[1].toNat).length c1,Au .u64 (l[2].toNat:Int),Ac A2 lb.length c2,Ac A3 ks.length c3],.bool true]) (by simp [results,results181,go_sem,p0,p1,p2,p3]) rfl ?_;refine⟨Ld,?_⟩;rw [HD.out,if_pos rfl,HC.out];exact⟨A1,c1,A2,c2,A3,c3,rfl,(CP S1).1,(CP S2).1,(CP S3).1,(CP S1).2,(CP S2).2,(CP S3).2,Um S1 O,Um S2 O,Um S3 O⟩
   ·have HD:Hid (IX l=false):=Aa (by rw [IX,hR];simp [he]);have HE:Hid (decide (Ea (EY l)=l)=false):=Aa (by simp [he]);clear he hR
    go_wp2_with fail
    refine uJ.out.mono ?_;rintro e w6⟨rfl,hdr⟩;have hb6:η w5 w6:=hdr.below _;replace JR:=JR.ξ hb6;replace L8:=L8.ξ hb6;replace N8:=τ N8 hb6;clear y0 y1 y2 y3 f0 f1 f2 f3 z0 z1 z2 z3 k0 k1 k2 k3 hdr;obtain⟨y0,y1,y2,y3,f0,f1,f2,f3⟩:=blk4 L8;obtain⟨z0,z1,z2,z3,k0,k1,k2,k3⟩:=blk4 JR;rw [HE.out];clear uJ HE
    go_wp2_with fail
    have BF:=((((JR.AZ 0 (Ac none 0 0)).AZ 1 (Au .u64 0)).AZ 2 (Ac none 0 0)).AZ 3 (Ac none 0 0));have Ld:=(((N8.setCell (p:=Φ w.heap.size) (Ad _) (Ac none 0 0)).setCell (p:=Δ w.heap.size 1) (Ad _) (Au .u64 0)).setCell (p:=Δ w.heap.size 2) (Ad _) (Ac none 0 0)).setCell (p:=Δ w.heap.size 3) (Ad _) (Ac none 0 0);generalize(((w6.setCell (Φ w.heap.size) (Ac none 0 0)).setCell (Δ w.heap.size 1) (Au .u64 0)).setCell (Δ w.heap.size 2) (Ac none 0 0)).setCell (Δ w.heap.size 3) (Ac none 0 0)=WF at*;obtain⟨p0,p1,p2,p3,_⟩:=blk4 BF;refine bodyPost_ret (v:= .tuple #[.agg #[Ac none 0 0,Au .u64 0,Ac none 0 0,Ac none 0 0],.bool false]) (by simp [results,results181,go_sem,p0,p1,p2,p3]) rfl ?_;exact⟨Ld,by rw [HD.out];rfl⟩
def Afl(A:Option Addr)(c:Nat)(l:List UInt64)(w:World)(hc:32<=c)(h:Ws w A 32 l):
 Calls prog 181 #[.slice A 32 c] w (Y3 l w):=by
 have hlen:=h.len;obtain⟨hq1,b,off,rfl,hb0,hc1⟩:=h.at (show 1<32 by decide);go_enter func181,ntmps181
 go_wp2_with(first| (go_at_call_of 180(Au IntKind.i64 1);refine(Jq 1 _).mono ?_;rintro e w'⟨rfl,rfl⟩;rw [show Lu 1=8 from rfl])| (go_at_call_of 180(Au IntKind.i64 2);refine(Jq 2 _).mono ?_;rintro e w'⟨rfl,rfl⟩;rw [show Lu 2=32 from rfl]))
 obtain⟨W,hW,B1,B2,hbW,hsW⟩:=Wq w 212 (.slice none 0 0) (.int .u64 0);rw [<-hW];clear hW;have q3:3<l.length:=O
 have hsm:=Ajm (some (Δ b off)) c l W hc (h.below hbW);have HSM:=Aa hsm;clear hsm;refine HSM.out.mono ?_;rintro e w1⟨hb1,A2,c2,A3,c3,rfl,r2,r3⟩;have R2:=Aa r2;have R3:=Aa r3;clear r2 r3;clear HSM;replace B1:=B1.below hb1 O;replace B2:=B2.below hb1 O;obtain⟨y0,y1,y2,y3,f0,f1,f2,f3⟩:=blk4 B2;have Gg:=τ hbW hb1;have hx1:w1.cell? (Δ b (off+1))=some (.int .u64 (l[1].toNat:Int)):=(Gg.cell (p:=Δ b (off+1)) hb0).trans hc1;have hne:b≠w.heap.size+1:=O
 go_wp2_with fail
 have Jy:EY l={pre:=Em l[1].toNat,val:=l[2],labels:=(Jw 0 ((l.drop 4).take 16)),kids:=(Kw ((l.drop 4).take 16))}:=by
  rw [EY,if_neg O,vH];simp [UK,show 1<l.length by omega,show 2<l.length by omega]
 have Ari:(Kw ((l.drop 4).take 16)).length<=16:=by have:=Za ((l.drop 4).take 16);simp at this;omega
 have hlk2:(Jw 0 ((l.drop 4).take 16)).length<=16:=by rw [O0];exact Ari
 have r2:=R2.out;have r3:=R3.out;clear R2 R3;generalize(Jw 0 ((l.drop 4).take 16))=lb at*;generalize(Kw ((l.drop 4).take 16))=ks at*;have hlp:=fA l[1].toNat;have B2':=(B2.AZ 2 (.slice A2 lb.length c2)).AZ 3 (.slice A3 ks.length c3);have B1':=(B1.far (g':=w.heap.size+1) O 2 (.slice A2 lb.length c2)).far (g':=w.heap.size+1) O 3 (.slice A3 ks.length c3);have ED:=(Gg.setCell (p:=Δ (w.heap.size+1) 2) Θ (.slice A2 lb.length c2)).setCell (p:=Δ (w.heap.size+1) 3) Θ (.slice A3 ks.length c3);have r2':=AU (AU r2 (g:=w.heap.size+1) O 2 (.slice A2 lb.length c2)) (g:=w.heap.size+1) O 3 (.slice A3 ks.length c3);have r3':=AU (AU r3 (g:=w.heap.size+1) O 2 (.slice A2 lb.length c2)) (g:=w.heap.size+1) O 3 (.slice A3 ks.length c3);have hs2:w.heap.size+2<=((w1.setCell (Δ (w.heap.size+1) 2) (.slice A2 lb.length c2)).setCell (Δ (w.heap.size+1) 3) (.slice A3 ks.length c3)).heap.size:=by
  have:=hb1.size;simp only [D8,Pg];omega
 clear r2 r3 B1 B2 Gg y0 y1 y2 y3 f0 f1 f2 f3 hx1 hb1;generalize(w1.setCell (Δ (w.heap.size+1) 2) (.slice A2 lb.length c2)).setCell (Δ (w.heap.size+1) 3) (.slice A3 ks.length c3)=W2 at*;refine(X7 l[1].toNat W2 (by have:=l[1].toNat_lt;simpa [Kt]using this)).mono ?_;rintro e w3⟨hb3,A1,c1,b1,rfl,r1⟩;replace B1':=B1'.ξ hb3;replace B2':=B2'.ξ hb3;have OO:=τ ED hb3;obtain⟨y0,y1,y2,y3,f0,f1,f2,f3⟩:=blk4 B2';have hx2:w3.cell? (Δ b (off+2))=some (.int .u64 (l[2].toNat:Int)):=(OO.cell (p:=Δ b (off+2)) hb0).trans (h.cellAt U O)
 go_wp2_with fail
 have L8:=(B2'.AZ 0 (.slice A1 (Em l[1].toNat).length c1)).AZ 1 (.int .u64 (l[2].toNat:Int));have JR:=(B1'.far (g':=w.heap.size+1) O 0 (.slice A1 (Em l[1].toNat).length c1)).far (g':=w.heap.size+1) O 1 (.int .u64 (l[2].toNat:Int));have Zn:=(OO.setCell (p:=Φ (w.heap.size+1)) Θ (.slice A1 (Em l[1].toNat).length c1)).setCell (p:=Δ (w.heap.size+1) 1) Θ (.int .u64 (l[2].toNat:Int));have s2:=AU (AU (own_below r2' hb3) (g:=w.heap.size+1) O 0 (.slice A1 (Em l[1].toNat).length c1)) (g:=w.heap.size+1) O 1 (.int .u64 (l[2].toNat:Int));have s3:=AU (AU (own_below r3' hb3) (g:=w.heap.size+1) O 0 (.slice A1 (Em l[1].toNat).length c1)) (g:=w.heap.size+1) O 1 (.int .u64 (l[2].toNat:Int));have s1:=AU (AU r1 (g:=w.heap.size+1) O 0 (.slice A1 (Em l[1].toNat).length c1)) (g:=w.heap.size+1) O 1 (.int .u64 (l[2].toNat:Int));clear r1 r2' r3' B1' B2' ED OO y0 y1 y2 y3 f0 f1 f2 f3 hx2;generalize(w3.setCell (Φ (w.heap.size+1)) (.slice A1 (Em l[1].toNat).length c1)).setCell (Δ (w.heap.size+1) 1) (.int .u64 (l[2].toNat:Int))=W4 at*;have hen:=Rw A1 A2 A3 (Em l[1].toNat).length c1 lb.length c2 ks.length c3 (EY l) W4 O O O (by rw [Jy];exact(CP s1).2) (by rw [Jy];exact(CP s2).2) (by rw [Jy];exact(CP s3).2);rw [show(EY l).val=l[2]by rw [Jy]]at hen;have HEN:=Aa hen;have HC:=Aa Jy;clear hen Jy;obtain⟨y0,y1,y2,y3,f0,f1,f2,f3⟩:=blk4 L8
 go_wp2_with fail
 refine HEN.out.mono ?_;rintro e w5⟨hb5,hE⟩;clear HEN y0 y1 y2 y3 f0 f1 f2 f3;replace JR:=JR.ξ hb5;replace L8:=L8.ξ hb5;obtain⟨y0,y1,y2,y3,f0,f1,f2,f3⟩:=blk4 L8;obtain⟨z0,z1,z2,z3,k0,k1,k2,k3⟩:=blk4 JR;have N8:=τ Zn hb5;cases hR:C9 (EY l)with
 | false=>
   rw [hR]at hE;subst hE;have HD:Hid (IX l=false):=Aa (by rw [IX,hR];simp);clear hR
   go_wp2_with fail
   have BF:=((((JR.AZ 0 (Ac none 0 0)).AZ 1 (Au .u64 0)).AZ 2 (Ac none 0 0)).AZ 3 (Ac none 0 0));have Ld:=(((N8.setCell (p:=Φ w.heap.size) (Ad _) (Ac none 0 0)).setCell (p:=Δ w.heap.size 1) (Ad _) (Au .u64 0)).setCell (p:=Δ w.heap.size 2) (Ad _) (Ac none 0 0)).setCell (p:=Δ w.heap.size 3) (Ad _) (Ac none 0 0);generalize(((w5.setCell (Φ w.heap.size) (Ac none 0 0)).setCell (Δ w.heap.size 1) (Au .u64 0)).setCell (Δ w.heap.size 2) (Ac none 0 0)).setCell (Δ w.heap.size 3) (Ac none 0 0)=WF at*;obtain⟨p0,p1,p2,p3,_⟩:=blk4 BF;refine bodyPost_ret (v:= .tuple #[.agg #[Ac none 0 0,Au .u64 0,Ac none 0 0,Ac none 0 0],.bool false]) (by simp [results,results181,go_sem,p0,p1,p2,p3]) rfl ?_;exact⟨Ld,by rw [HD.out];rfl⟩
 | true=>
   rw [hR,if_pos rfl]at hE;obtain⟨v5,rfl,UM⟩:=hE;obtain⟨A5,c5,rfl,_,mV⟩:=CU UM;have heq:=Qe A5 (some (Δ b off)) (Ea (EY l)).length 32 c5 c (Ea (EY l)) l w5 (by rw [ER];split<;>decide) U mV (h.below N8);have hnn:(Ea (EY l)).length<=32:=by rw [ER];split<;>decide
   generalize(Ea (EY l)).length=n5 at*;have uJ:=Aa heq;clear heq UM mV;by_cases he:Ea (EY l)=l
   ·have HD:Hid (IX l=true):=Aa (by rw [IX,hR];simp [hlen,he]);have HE:Hid (decide (Ea (EY l)=l)=true):=Aa (by simp [he]);clear he hR
    go_wp2_with fail
    refine uJ.out.mono ?_;rintro e w6⟨rfl,hdr⟩;have hb6:η w5 w6:=hdr.below _;replace JR:=JR.ξ hb6;replace L8:=L8.ξ hb6;replace N8:=τ N8 hb6;clear y0 y1 y2 y3 f0 f1 f2 f3 z0 z1 z2 z3 k0 k1 k2 k3 hdr;obtain⟨y0,y1,y2,y3,f0,f1,f2,f3⟩:=blk4 L8;obtain⟨z0,z1,z2,z3,k0,k1,k2,k3⟩:=blk4 JR;rw [HE.out];clear uJ HE
    go_wp2_with fail
    have BF:=((((JR.AZ 0 (Ac A1 (Em l[1].toNat).length c1)).AZ 1 (Au .u64 (l[2].toNat:Int))).AZ 2 (Ac A2 lb.length c2)).AZ 3 (Ac A3 ks.length c3));have Ld:=(((N8.setCell (p:=Φ w.heap.size) (Ad _) (Ac A1 (Em l[1].toNat).length c1)).setCell (p:=Δ w.heap.size 1) (Ad _) (Au .u64 (l[2].toNat:Int))).setCell (p:=Δ w.heap.size 2) (Ad _) (Ac A2 lb.length c2)).setCell (p:=Δ w.heap.size 3) (Ad _) (Ac A3 ks.length c3);have S1:=AU (AU (AU (AU (own_below (own_below s1 hb5) hb6) (g:=w.heap.size) O 0 (Ac A1 (Em l[1].toNat).length c1)) (g:=w.heap.size) O 1 (Au .u64 (l[2].toNat:Int))) (g:=w.heap.size) O 2 (Ac A2 lb.length c2)) (g:=w.heap.size) O 3 (Ac A3 ks.length c3);have S2:=AU (AU (AU (AU (own_below (own_below s2 hb5) hb6) (g:=w.heap.size) O 0 (Ac A1 (Em l[1].toNat).length c1)) (g:=w.heap.size) O 1 (Au .u64 (l[2].toNat:Int))) (g:=w.heap.size) O 2 (Ac A2 lb.length c2)) (g:=w.heap.size) O 3 (Ac A3 ks.length c3);have S3:=AU (AU (AU (AU (own_below (own_below s3 hb5) hb6) (g:=w.heap.size) O 0 (Ac A1 (Em l[1].toNat).length c1)) (g:=w.heap.size) O 1 (Au .u64 (l[2].toNat:Int))) (g:=w.heap.size) O 2 (Ac A2 lb.length c2)) (g:=w.heap.size) O 3 (Ac A3 ks.length c3);generalize(((w6.setCell (Φ w.heap.size) (Ac A1 (Em l[1].toNat).length c1)).setCell (Δ w.heap.size 1) (Au .u64 (l[2].toNat:Int))).setCell (Δ w.heap.size 2) (Ac A2 lb.length c2)).setCell (Δ w.heap.size 3) (Ac A3 ks.length c3)=WF at*;obtain⟨p0,p1,p2,p3,_⟩:=blk4 BF;refine bodyPost_ret (v:= .tuple #[.agg #[Ac A1 (Em l[1].toNat).length c1,Au .u64 (l[2].toNat:Int),Ac A2 lb.length c2,Ac A3 ks.length c3],.bool true]) (by simp [results,results181,go_sem,p0,p1,p2,p3]) rfl ?_;refine⟨Ld,?_⟩;rw [HD.out,if_pos rfl,HC.out];exact⟨A1,c1,A2,c2,A3,c3,rfl,(CP S1).1,(CP S2).1,(CP S3).1,(CP S1).2,(CP S2).2,(CP S3).2,Um S1 O,Um S2 O,Um S3 O⟩
   ·have HD:Hid (IX l=false):=Aa (by rw [IX,hR];simp [he]);have HE:Hid (decide (Ea (EY l)=l)=false):=Aa (by simp [he]);clear he hR
    go_wp2_with fail
    refine uJ.out.mono ?_;rintro e w6⟨rfl,hdr⟩;have hb6:η w5 w6:=hdr.below _;replace JR:=JR.ξ hb6;replace L8:=L8.ξ hb6;replace N8:=τ N8 hb6;clear y0 y1 y2 y3 f0 f1 f2 f3 z0 z1 z2 z3 k0 k1 k2 k3 hdr;obtain⟨y0,y1,y2,y3,f0,f1,f2,f3⟩:=blk4 L8;obtain⟨z0,z1,z2,z3,k0,k1,k2,k3⟩:=blk4 JR;rw [HE.out];clear uJ HE
    go_wp2_with fail
    have BF:=((((JR.AZ 0 (Ac none 0 0)).AZ 1 (Au .u64 0)).AZ 2 (Ac none 0 0)).AZ 3 (Ac none 0 0));have Ld:=(((N8.setCell (p:=Φ w.heap.size) (Ad _) (Ac none 0 0)).setCell (p:=Δ w.heap.size 1) (Ad _) (Au .u64 0)).setCell (p:=Δ w.heap.size 2) (Ad _) (Ac none 0 0)).setCell (p:=Δ w.heap.size 3) (Ad _) (Ac none 0 0);generalize(((w6.setCell (Φ w.heap.size) (Ac none 0 0)).setCell (Δ w.heap.size 1) (Au .u64 0)).setCell (Δ w.heap.size 2) (Ac none 0 0)).setCell (Δ w.heap.size 3) (Ac none 0 0)=WF at*;obtain⟨p0,p1,p2,p3,_⟩:=blk4 BF;refine bodyPost_ret (v:= .tuple #[.agg #[Ac none 0 0,Au .u64 0,Ac none 0 0,Ac none 0 0],.bool false]) (by simp [results,results181,go_sem,p0,p1,p2,p3]) rfl ?_;exact⟨Ld,by rw [HD.out];rfl⟩
def jF(A:Option Addr)(n c:Nat)(l:List UInt64)(w:World)(_hn:n<=1000000)(h:Ws w A n l)(h8:n≠8)(h32:n≠32):
 Calls prog 181 #[.slice A n c] w (Y3 l w):=by
 have hlen:=h.len;have HD:Hid (IX l=false):=Aa (by rw [IX,hlen];simp [h8,h32]);have t8:((n:Int)==8)=false:=by simp;omega
 have t32:((n:Int)==32)=false:=by simp;omega
 obtain⟨W,hW,B1,B2,hbW,hsW⟩:=Wq w 212 (.slice none 0 0) (.int .u64 0);obtain⟨z0,z1,z2,z3,k0,k1,k2,k3⟩:=blk4 B1;have HW:=Aa hW;clear hW h8 h32;go_enter func181,ntmps181
 go_wp2_with fail
 rw [<-HW.out];refine(Jq 1 _).mono ?_;rintro e w'⟨rfl,rfl⟩;rw [show Lu 1=8 from rfl]
 go_wp2_with fail
 refine(Jq 2 _).mono ?_;rintro e w'⟨rfl,rfl⟩;rw [show Lu 2=32 from rfl]
 go_wp2_with fail
 have BF:=((((B1.AZ 0 (Ac none 0 0)).AZ 1 (Au .u64 0)).AZ 2 (Ac none 0 0)).AZ 3 (Ac none 0 0));have Ld:=(((hbW.setCell (p:=Φ w.heap.size) (Ad _) (Ac none 0 0)).setCell (p:=Δ w.heap.size 1) (Ad _) (Au .u64 0)).setCell (p:=Δ w.heap.size 2) (Ad _) (Ac none 0 0)).setCell (p:=Δ w.heap.size 3) (Ad _) (Ac none 0 0);generalize(((W.setCell (Φ w.heap.size) (Ac none 0 0)).setCell (Δ w.heap.size 1) (Au .u64 0)).setCell (Δ w.heap.size 2) (Ac none 0 0)).setCell (Δ w.heap.size 3) (Ac none 0 0)=WF at*;obtain⟨p0,p1,p2,p3,_⟩:=blk4 BF;refine bodyPost_ret (v:= .tuple #[.agg #[Ac none 0 0,Au .u64 0,Ac none 0 0,Ac none 0 0],.bool false]) (by simp [results,results181,go_sem,p0,p1,p2,p3]) rfl ?_;exact⟨Ld,by rw [HD.out];rfl⟩
def decode_any(A:Option Addr)(n c:Nat)(l:List UInt64)(w:World)(hn:n<=1000000)(hc:n<=c)(h:Ws w A n l):
 Calls prog 181 #[.slice A n c] w (Y3 l w):=by
 by_cases h8:n=8
 ·subst h8;exact Ajn A c l w hc h
 ·by_cases h32:n=32
  ·subst h32;exact Afl A c l w hc h
  ·exact jF A n c l w hn h h8 h32
def Ym(x:Nd)(label:UInt8):Value:=
 match x.labels.findIdx? (λy=>y.toNat==label.toNat)with
 | some i=>if C9 x then .tuple #[.int .u64 ((x.kids.getD i 0).toNat:Int),.int .i64 (if x.kids.length<=4 then 4+(i:Int)else 4+(label.toNat:Int)),.bool true]else .tuple #[.int .u64 0,.int .i64 0,.bool false]
 | none=> .tuple #[.int .u64 0,.int .i64 0,.bool false]
def Afm(A1 A2 A3:Option Addr)(n1 c1 n2 c2 n3 c3:Nat)(x:Nd)(label:UInt8)(w:World)(b1:n1<=1000000)(b2:n2<=1000000)(b3:n3<=1000000)(h1:Bs w A1 n1 x.pre)(h2:Bs w A2 n2 x.labels)(h3:Ws w A3 n3 x.kids):
 Calls prog 156 #[.agg #[.slice A1 n1 c1,.int .u64 (x.val.toNat:Int),.slice A2 n2 c2,.slice A3 n3 c3],.int .u8 (label.toNat:Int)] w λe w'=>e= .returned (Ym x label)/\η w w':=by
 have hl1:=h1.len;have hl2:=h2.len;have hl3:=h3.len;have hlb:label.toNat<256:=label.toNat_lt;obtain⟨W,hW,e0,e1,e2,e3,hb,hs⟩:=Afk w 212 (.slice A1 n1 c1) (.int .u64 (x.val.toNat:Int)) (.slice A2 n2 c2) (.slice A3 n3 c3);have hix:=Ul A2 n2 c2 x.labels label W O (h2.below hb);have dD:=L6 A1 A2 A3 n1 c1 n2 c2 n3 c3 x W b1 b2 b3 (h1.below hb) (h2.below hb) (h3.below hb);have HW:=Aa hW;have HIX:=Aa hix;have zL:=Aa dD;clear hW hix dD;cases hf:x.labels.findIdx? (λy=>y.toNat==label.toNat)with
 | none=>
   have hpl:placeOf (λy=>y.toNat==label.toNat) x.labels= -1:=by rw [placeOf,hf]
   have HV:Hid (Ym x label= .tuple #[.int .u64 0,.int .i64 0,.bool false]):=Aa (by rw [Ym,hf]);have HPL:=Aa hpl;clear hpl hf;go_enter func156,ntmps156
   go_wp2_with fail
   rw [<-HW.out];refine HIX.out.mono ?_;rintro e w'⟨rfl,rfl⟩;rw [HPL.out]
   go_wp2_with fail
   go_ret3
   exact⟨by rw [HV.out];rfl,hb⟩
 | some i=>
   have hi0:decide ((i:Int)<0)=false:=by simp
   have hpl:placeOf (λy=>y.toNat==label.toNat) x.labels=(i:Int):=by rw [placeOf,hf]
   have hi:i<n2:=by
    rw [List.findIdx?_eq_some_iff_getElem]at hf;obtain⟨hi,_⟩:=hf;omega
   have HPL:=Aa hpl;have HF:=Aa hf;clear hpl hf;go_enter func156,ntmps156
   go_wp2_with fail
   rw [<-HW.out];refine HIX.out.mono ?_;rintro e w'⟨rfl,rfl⟩;rw [HPL.out];clear HIX HPL
   go_wp2_with fail
   refine zL.out.mono ?_;rintro e w1⟨rfl,hb1⟩;obtain⟨p0,p1,p2,p3,hs1⟩:=Pv e0 e1 e2 e3 O hb1;have Gg:=τ hb hb1;clear zL e0 e1 e2 e3 hb hb1;cases hR:C9 x with
   | false=>
     have HV:Hid (Ym x label= .tuple #[.int .u64 0,.int .i64 0,.bool false]):=Aa (by rw [Ym,HF.out];simp [hR]);clear hR
     go_wp2_with fail
     go_ret3
     exact⟨by rw [HV.out];rfl,Gg⟩
   | true=>
     have hlk:=((Bq x).1 hR).2.2.1;have hi3:i<n3:=O
     have hg:x.kids.getD i 0=x.kids[i]' O:=by simp [UK,show i<x.kids.length by omega]
     have hv:Ym x label= .tuple #[.int .u64 ((x.kids.getD i 0).toNat:Int),.int .i64 (if x.kids.length<=4 then 4+(i:Int)else 4+(label.toNat:Int)),.bool true]:=by rw [Ym,HF.out];simp [hR]
     rw [hl3,hg]at hv;clear hg;have HV:=Aa hv;clear hv hR
     go_wp2_with fail
     refine(Wp _ _ _ A3 n3 c3 w1 O).mono ?_;rintro e w2⟨rfl,hb2⟩;obtain⟨q0,q1,q2,q3,hs2⟩:=Pv p0 p1 p2 p3 hs1 hb2;have ED:=τ Gg hb2;clear p0 p1 p2 p3 Gg hb2;obtain⟨hq,b,off,rfl,_,hc⟩:=(h3.below ED).at hi3;by_cases h4:n3<=4
     ·rw [if_pos h4]at HV;rw [if_pos h4]
      go_wp2_with fail
      go_ret3
      exact⟨by rw [HV.out];rfl,ED⟩
     ·rw [if_neg h4]at HV;rw [if_neg h4]
      go_wp2_with fail
      go_ret3
      exact⟨by rw [HV.out];rfl,ED⟩
