import Derived.Test.YtfmkofmaabgbkaaGreatDoorJ09
set_option linter.defProp false
set_option maxHeartbeats 32000000
set_option maxRecDepth 100000
open Go.Lib renaming hid->Ac
open Nat renaming mod_eq_of_lt->Gs,le_refl->Ae,le_trans->Bq,lt_of_lt_of_le->Be
open UInt64 renaming ofNat->Az,toNat_inj->DN
open Go.Value renaming int->Aw,ownBlock->AV,slice->Ad
open List renaming getElem?_cons_zero->Ag,getElem?_cons_succ->Am,take_zero->Alk,set_cons_zero->Ak,set_cons_succ->Au,cons_append->BD,nil_append->EK,map_cons->BM,map_nil->FP,getElem?_map->DJ,take_of_length_le->EL,length_map->CZ,length_drop->AQ,findIdx?_eq_some_iff_getElem->LM,getElem?_eq_getElem->Ah,length_append->AP,mem_append->AB,mem_singleton->BQ,length_cons->Bv,getElem_of_mem->Dw,pairwise_iff_getElem->iH,getElem_set->Lc,getElem_drop->YK,length_take->Ed,mem_cons->CG,mem_cons_of_mem->Bz,mem_cons_self->Bo,find?_eq_none->Xk
open Go.World renaming setCell->D9
open Array renaming size_modify->Qh,getElem?_modify->SN,getElem?_eq_some_iff->AA
open Go.Value renaming slice->fD,int->fP,string->fQ,bool->fU,tuple->gJ
open Go.Ending renaming returned->gY
open Go.IntKind renaming i64->gZ,u64->ig
open Option renaming some->iC,none->iD
open Bool renaming true->jm,false->jw
open Go renaming World->jD,Value->jL
namespace Go.Proofs.YtfmkofmaabgbkaaGreatDoor
open Go.RowKit
open Go.Proofs.Tryz
def rcV(r:Rc):jL:=.agg #[fP ig (r.stamp.toNat:Int),fP ig (r.next.toNat:Int),fU r.gone,fQ r.text]
def bu(s:ByteArray):(s.toList==[])=decide (s.size=0):=by
 rw[ByteArray.toList_eq];have h:s.size=s.data.toList.length:=rfl;cases a:s.data.toList with
 |nil=>rw[h,a];rfl
 |cons b c=>rw[h,a];rfl
def Aij(r:Rc)(w:jD)(v:r.text.size<=4294967296):Calls prog 198 #[rcV r] w λn w'=>n=gY (fU (DZ r))/\η w w':=by
 obtain⟨b,f,g,a⟩:=r;simp only[rcV];obtain⟨t,k,l,i⟩:=newB w 198 [fP ig (b.toNat:Int),fP ig (f.toNat:Int),fU g,fQ a];obtain⟨o,p,q,s,_,_,_,_⟩:=CS i;have e:=Ac l;rw[k]at o p q s e;have j:=bu a;have m:=Ac j;clear i l k j;by_cases d:b.toNat=0
 ·have t1:((b.toNat:Int)==0)=jm:=by rw[d];rfl
  have c:Hid (DZ ⟨b,f,g,a⟩=jw):=Ac (by simp[DZ,d]);clear d;go_enter func198,ntmps198
  go_wp2_with fail
  go_ret;exact⟨by rw[c.out];rfl,e.out⟩
 ·have t1:((b.toNat:Int)==0)=jw:=ζ O;have u1:(b.toNat==0)=jw:=ζ d;by_cases u:40<a.size
  ·have t2:decide ((40:Int)<(a.size:Int))=jm:=decide_eq_true O;have c:Hid (DZ ⟨b,f,g,a⟩=jw):=Ac (by simp[DZ,u1];omega);clear d u1;go_enter func198,ntmps198
   go_wp2_with fail
   go_ret;exact⟨by rw[c.out];rfl,e.out⟩
  ·have t2:decide ((40:Int)<(a.size:Int))=jw:=decide_eq_false O;cases g with
   |false=>
    have c:Hid (DZ ⟨b,f,jw,a⟩=jm):=Ac (by simp[DZ,u1];omega);clear d u1;go_enter func198,ntmps198
    go_wp2_with fail
    go_ret;exact⟨by rw[c.out];rfl,e.out⟩
   |true=>
    have c:Hid (DZ ⟨b,f,jm,a⟩=(a.toList==[])):=Ac (by rw[m.out];simp[DZ,u1];omega);clear d u1;go_enter func198,ntmps198;cases t4:(a.toList==[])
    all_goals(go_wp2_with fail)
    all_goals(go_ret)
    all_goals(exact⟨by rw[c.out,t4];rfl,e.out⟩)
def Amh:∀a:Fin 41,bits BinOp.or ig 3 ((a.val:Int)*65536)=((Iy a.val jw:Nat):Int):=by decide+kernel
def Aik:bits BinOp.or ig (bits BinOp.or ig 3 (((0:Nat):Int)*65536)) 256=((Iy 0 jm:Nat):Int):=by decide+kernel
def Ami(o b j:Nat)(a:o<256^j)(e:b<256)(f:j<8):bits .or ig (o:Int) (IntKind.u64.wrap (IntKind.u64.wrap (b:Int)*2^(j*8)))=((o+b*256^j:Nat):Int):=by
 have h:=Ab0 o b j e f;have c:(o:Int)%256^j=(o:Int):=by
  have d:(o:Int)%256^j=((o%256^j:Nat):Int):=by rw[Int.natCast_emod,Int.natCast_pow];rfl
  rw[d,Gs a]
 rw[c,Gs a,Nat.mul_comm 8 j]at h;exact h
def NT(r:Rc)(k:Nat):List jL:=([Az (Iy r.text.size r.gone),r.stamp,r.next]++textW (r.text.data.toList.take k)).map wv
def zk(r:Rc)(k:Nat)(e:k<r.text.size)(v:Nat)(d:v=(LX (r.text.data.toList.take k) (k/8)).toNat+r.text[k].toNat*256^(k%8)):(NT r k).set (3+k/8) (fP ig (v:Int))=NT r (k+1):=by
 have c:k<r.text.data.toList.length:=e;have a:=ZB r.text.data.toList k c;have b:r.text.data.toList[k]=r.text[k]:=rfl;rw[b,<-d]at a;unfold NT;rw[<-xY r.text.data.toList k c (LX (r.text.data.toList.take (k+1)) (k/8)) (by rw[b,<-d];exact a),<-a];rw[show Aw IntKind.u64 ((LX (r.text.data.toList.take (k+1)) (k/8)).toNat:Int)=wv (LX (r.text.data.toList.take (k+1)) (k/8))from rfl,<-List.map_set,List.set_append_right _ _ Θ];congr 3;simp
def zl(r:Rc)(w:jD)(e:Ending)(w':jD):Prop:=
 η w w'/\if DZ r=jm then∃a,e=gY (gJ #[fD (iC (Φ a)) 8 8,fU jm])/\w'.ownsRow w.heap.size 40 1 (fD (iC (Φ a)) 8 8) 8 ((Ee r).map wv)
  else e=gY (gJ #[fD iD 0 0,fU jw])
def jo(r:Rc)(w:jD)(bl:r.text.size<=4294967296):Calls prog 168 #[rcV r] w (zl r w):=by
 obtain⟨c,av,a3,ac⟩:=newB w 198 [fP ig (r.stamp.toNat:Int),fP ig (r.next.toNat:Int),fU r.gone,fQ r.text];obtain⟨a8,a9,ba,bb,_,_,_,_⟩:=CS ac;have aM:=Ac a3;have be:=Ac ac;have m:=Ac (Aij r c bl);unfold rcV at m⊢;have aV:=Ac av;rw[av]at a8 a9 ba bb;clear ac a3 av;have aE:∀c:jD,(Instr.makeSlice 89 (fP gZ 8) (fP gZ 8)).run prog c=.ok (fD (iC (Φ c.heap.size)) 8 8) (c.alloc (.cells (madeCells (Aw ig 0).cells (8*1)) 40)):=λc=>by
  obtain⟨bp,bj,aa,bm,bo⟩:=info_parts Tryz.qP;have:=run_make (P:=prog) (w:=c) 89 40 bp (fP ig 0) underlying89 bj aa gZ gZ 8 8 O O (by rw[bo];omega) O;rw[bm]at this;simpa using this
 have aF:(madeCells (Aw ig 0).cells (8*1)).toList=(List.replicate 8 (0:UInt64)).map wv:=Me 8;obtain⟨ab,a7⟩:∃ab,madeCells (Aw ig 0).cells (8*1)=ab:=⟨_,rfl⟩;rw[a7]at aE aF;have al:=Ac aF;clear a7 aF;cases q:DZ r with
 |false=>
  have K:=Ac q;rw[q]at m;clear q;go_enter func168,ntmps168
  go_wp2_with fail
  rw[<-aV.out];refine m.mono ?_;rintro f d⟨rfl,E⟩;have i:=Ac (τ aM.out E);clear m E
  go_wp2_with fail
  go_ret2;refine⟨i.out,?_⟩;rw[ku (by rw[K.out];exact Bool.false_ne_true)];rfl
 |true=>
  have K:=Ac q;rw[q]at m;have a2:=((KQ r).1 q).2.1;clear q;go_enter func168,ntmps168
  go_wp2_with fail
  rw[<-aV.out];refine m.mono ?_;rintro f d⟨rfl,E⟩;have i:=Ac (τ aM.out E);have ad:=be.out.ξ E;obtain⟨bD,bE,bG,bH,_,_,_,_⟩:=CS ad;have T:=Ac ad;clear m E ad a8 a9 ba bb;obtain⟨e,N⟩:=ε (d.alloc (.cells ab 40));have a6:=aE d;rw[<-N]at a6;obtain⟨a,R⟩:=ε d.heap.size;have bx:=T.lt;have t:w.heap.size≠a:=O;have x:CB e a 40 [fP ig 0,fP ig 0,fP ig 0,fP ig 0,fP ig 0,fP ig 0,fP ig 0,fP ig 0]:=by
   have f:[Aw ig 0,fP ig 0,fP ig 0,fP ig 0,fP ig 0,fP ig 0,fP ig 0,fP ig 0]=ab.toList:=by rw[al.out];rfl
   rw[f];unfold CB;rw[N,R,Array.toArray_toList];exact heap_alloc_new _ _
  have z:CB e w.heap.size 198 _:=(N▸χ _ _ T.lt:e.heap[w.heap.size]?=d.heap[w.heap.size]?).trans T.out;have Y:Below a d e:=by rw[N,R];exact(Below.refl _ _).alloc (Ae _) _
  have J:=Ac R;rw[<-R]at a6;clear N R aE;have a1:∀(c:jD)(xs:List jL),CB c a 40 xs->∀b,b<xs.length->(∃v,c.cell? (Δ a b)=iC v)/\c.frozen? (Δ a b)=jw:=λc xs h b az=>⟨⟨_,h.has az⟩,h.frozen b⟩
  have j:=Ac a1;clear a1;obtain⟨U,D⟩:=ε (Aw ig (bits BinOp.or ig 3 ((r.text.size:Int)*65536)));cases s:r.gone with
  |false=>
   have aJ:=Ac s;have g:=x.AX 0 U;have k:=z.far t 0 U;have l:=g.AX 1 (fP ig (r.stamp.toNat:Int));have n:=k.far t 1 (fP ig (r.stamp.toNat:Int));have y:=l.AX 2 (fP ig (r.next.toNat:Int));have A:=n.far t 2 (fP ig (r.next.toNat:Int));have aZ:=Ac y;obtain⟨⟨bq,ap⟩,f2⟩:=j _ _ x 0 Θ;obtain⟨⟨bB,B⟩,f3⟩:=j _ _ g 1 Θ;obtain⟨⟨br,C⟩,f4⟩:=j _ _ l 2 Θ;have L:=z.cell 3;have o:=k.cell 2;have am:=k.cell 0;have an:=n.cell 1;have ao:=A.cell 3;simp only[Ag,Am,s]at L o am an ao;rw[D]at o am an ao B f3 C f4;clear x z g k l n y A s;have ah:Hid (CB ((((e.setCell (Φ a) (Aw ig (bits BinOp.or ig 3 ((r.text.size:Int)*65536)))).setCell (Δ a 1) (fP ig (r.stamp.toNat:Int))).setCell (Δ a 2) (fP ig (r.next.toNat:Int)))) a 40 (NT r 0)):=Ac (by
    have h:=aZ.out;rw[D]at h;unfold NT;rw[aJ.out,Alk,ZC];have f:bits BinOp.or ig 3 ((r.text.size:Int)*65536)=((Iy r.text.size jw:Nat):Int):=Amh ⟨r.text.size,O⟩;have ar:=Rf a2 jw;simp only[Ak,Au,f]at h;simp only[BD,EK,BM,FP,wv,f,ar,show(((0:UInt64).toNat:Nat):Int)=0 from rfl];exact h)
   have ae:Hid (Below a d ((((e.setCell (Φ a) (Aw ig (bits BinOp.or ig 3 ((r.text.size:Int)*65536)))).setCell (Δ a 1) (fP ig (r.stamp.toNat:Int))).setCell (Δ a 2) (fP ig (r.next.toNat:Int))))):=Ac (((Y.setCell (p:=Φ a) (Ae _) _).setCell (p:=Δ a 1) (Ae _) _).setCell (p:=Δ a 2) (Ae _) _);clear D aZ j al Y
   go_wp2_with fail
   clear L o am an ao ap f2 B f3 C f4;generalize((((e.setCell (Φ a) (Aw ig (bits BinOp.or ig 3 ((r.text.size:Int)*65536)))).setCell (Δ a 1) (fP ig (r.stamp.toNat:Int))).setCell (Δ a 2) (fP ig (r.next.toNat:Int))))=bh at*;generalize bits BinOp.or ig 3 ((r.text.size:Int)*65536)=bi at*
   go_loopw [36](λu wr=>∃b:Nat,b<=r.text.size/\u=fP gZ (b:Nat)/\CB wr a 40 (NT r b)/\Below a d wr)(λu _=>r.text.size-(intOf u).toNat)
   case atStart=>exact⟨0,Nat.zero_le _,rfl,ah.out,ae.out⟩
   case round=>
    obtain⟨b,az,rfl,S,Q⟩:=hrel;have G:=Ac S;have H:=Ac Q;clear S Q;by_cases bk:b<r.text.size
    ·have a4:=G.cell (3+b/8);have bt:=G.frozen (3+b/8);have a5:(NT r b)[3+b/8]?=iC (fP ig ((LX (r.text.data.toList.take b) (b/8)).toNat:Int)):=by
      unfold NT;rw[DJ,List.getElem?_append_right Θ,show 3+b/8- [Az (Iy r.text.size r.gone),r.stamp,r.next].length=b/8 by simp,textW,DJ,List.getElem?_range O];rfl
     rw[a5]at a4;have bA:wr.cell? (Δ w.heap.size 3)=iC (fQ r.text):=by
      have:=(T.below H.out (by have:=J.out;omega:w.heap.size<a)).cell 3;simpa using this
     have bw:b/8<=4:=O;obtain⟨F,Z⟩:∃F,LX (r.text.data.toList.take b) (b/8)=F:=⟨_,rfl⟩;rw[Z]at a4;have bc:=Ac (Ami F.toNat r.text[b].toNat (b%8) (by rw[<-Z];exact xX _ _) (r.text[b]).toNat_lt O);have bd:Hid (CB ((wr.setCell (Δ a (3+b/8)) (fP ig ((F.toNat+r.text[b].toNat*256^(b%8):Nat):Int))).drew) a 40 (NT r (b+1))):=Ac (by
      have h:=(G.AX (3+b/8) (fP ig ((F.toNat+r.text[b].toNat*256^(b%8):Nat):Int))).drew;rw[zk r b bk _ (by rw[Z])]at h;exact h)
     have bg:Hid (Below a d ((wr.setCell (Δ a (3+b/8)) (fP ig ((F.toNat+r.text[b].toNat*256^(b%8):Nat):Int))).drew)):=Ac ((H.setCell (p:=Δ a (3+b/8)) (Ae _) _).drew);clear a5 Z
     go_wp2_with fail
     go_region;rw[bc.out]
     go_wp2_with fail
     go_roundw
     case rel=>exact⟨b+1,O,by go_num,bd.out,bg.out⟩
     case measure=>simp[intOf];omega
    ·have aD:b=r.text.size:=O;subst aD;have I:Hid (NT r r.text.size=(Ee r).map wv):=Ac (by
      unfold NT Ee;rw[EL (show r.text.data.toList.length<=r.text.size from Ae _)])
     go_wp2_with fail
     go_ret2;refine⟨i.trans (H.mono (Ψ J.out i.size)),?_⟩;rw[jM K.out];have M:=G.own (B:=w.heap.size) (Ψ J.out i.size) (by rw[I.out,CZ,Iz];decide);rw[I.out,CZ,Iz]at M;exact⟨a,rfl,M⟩
  |true=>
   have aJ:=Ac s;have aa:r.text.size=0:=((KQ r).1 K.out).2.2 s;have aW:=Ac aa;clear aa;obtain⟨a0,aw⟩:=ε (Aw ig (bits BinOp.or ig (bits BinOp.or ig 3 ((r.text.size:Int)*65536)) 256));have g:=x.AX 0 U;have k:=z.far t 0 U;have l:=g.AX 0 a0;have n:=k.far t 0 a0;have y:=l.AX 1 (fP ig (r.stamp.toNat:Int));have A:=n.far t 1 (fP ig (r.stamp.toNat:Int));have aL:=y.AX 2 (fP ig (r.next.toNat:Int));have aX:=A.far t 2 (fP ig (r.next.toNat:Int));have aR:=Ac aL;obtain⟨⟨bq,ap⟩,f2⟩:=j _ _ x 0 Θ;have B:=g.cell 0;have f3:=g.frozen 0;obtain⟨⟨br,C⟩,f4⟩:=j _ _ l 1 Θ;obtain⟨⟨bC,aq⟩,f5⟩:=j _ _ y 2 Θ;have L:=z.cell 3;have o:=k.cell 2;have V:=n.cell 0;have W:=A.cell 1;have X:=aX.cell 3;simp only[Ag,Am,Ak,s]at L o V W X B;rw[D]at o B f3 V C f4 W aq f5 X;rw[aw]at V C f4 W aq f5 X;clear x z g k l n y A aL aX s;have ah:Hid (CB (((((e.setCell (Φ a) (Aw ig (bits BinOp.or ig 3 ((r.text.size:Int)*65536)))).setCell (Φ a) (Aw ig (bits BinOp.or ig (bits BinOp.or ig 3 ((r.text.size:Int)*65536)) 256))).setCell (Δ a 1) (fP ig (r.stamp.toNat:Int))).setCell (Δ a 2) (fP ig (r.next.toNat:Int)))) a 40 (NT r 0)):=Ac (by
    have h:=aR.out;rw[D,aw]at h;unfold NT;rw[aJ.out,Alk,ZC];have f:bits BinOp.or ig (bits BinOp.or ig 3 ((r.text.size:Int)*65536)) 256=((Iy r.text.size jm:Nat):Int):=by rw[aW.out];exact Aik
    have ar:=Rf a2 jm;simp only[Ak,Au,f]at h;simp only[BD,EK,BM,FP,wv,f,ar,show(((0:UInt64).toNat:Nat):Int)=0 from rfl];exact h)
   have ae:Hid (Below a d (((((e.setCell (Φ a) (Aw ig (bits BinOp.or ig 3 ((r.text.size:Int)*65536)))).setCell (Φ a) (Aw ig (bits BinOp.or ig (bits BinOp.or ig 3 ((r.text.size:Int)*65536)) 256))).setCell (Δ a 1) (fP ig (r.stamp.toNat:Int))).setCell (Δ a 2) (fP ig (r.next.toNat:Int))))):=Ac ((((Y.setCell (p:=Φ a) (Ae _) _).setCell (p:=Φ a) (Ae _) _).setCell (p:=Δ a 1) (Ae _) _).setCell (p:=Δ a 2) (Ae _) _);clear D aw aR j al Y
   go_wp2_with fail
   clear L o V W X ap f2 B f3 C f4 aq f5;generalize(((((e.setCell (Φ a) (Aw ig (bits BinOp.or ig 3 ((r.text.size:Int)*65536)))).setCell (Φ a) (Aw ig (bits BinOp.or ig (bits BinOp.or ig 3 ((r.text.size:Int)*65536)) 256))).setCell (Δ a 1) (fP ig (r.stamp.toNat:Int))).setCell (Δ a 2) (fP ig (r.next.toNat:Int))))=bh at*;generalize bits BinOp.or ig (bits BinOp.or ig 3 ((r.text.size:Int)*65536)) 256=bs at*;generalize bits BinOp.or ig 3 ((r.text.size:Int)*65536)=bi at*
   go_loopw [36](λu wr=>∃b:Nat,b<=r.text.size/\u=fP gZ (b:Nat)/\CB wr a 40 (NT r b)/\Below a d wr)(λu _=>r.text.size-(intOf u).toNat)
   case atStart=>exact⟨0,Nat.zero_le _,rfl,ah.out,ae.out⟩
   case round=>
    obtain⟨b,az,rfl,S,Q⟩:=hrel;have G:=Ac S;have H:=Ac Q;clear S Q;have aD:b=r.text.size:=Ω aW.out;subst aD;have I:Hid (NT r r.text.size=(Ee r).map wv):=Ac (by
     unfold NT Ee;rw[EL (show r.text.data.toList.length<=r.text.size from Ae _)])
    go_wp2_with fail
    go_ret2;refine⟨i.trans (H.mono (Ψ J.out i.size)),?_⟩;rw[jM K.out];have M:=G.own (B:=w.heap.size) (Ψ J.out i.size) (by rw[I.out,CZ,Iz];decide);rw[I.out,CZ,Iz]at M;exact⟨a,rfl,M⟩
def Tryz.Ail:Ig prog 170 176 (.agg #[fD iD 0 0,fP ig 0,fD iD 0 0,fD iD 0 0,fP gZ 0,fP .u8 0,fP gZ 0]) 7 104:=⟨underlying170,by kernel_rfl,rfl⟩
def CW(e:TypeId)(w w':jD):Prop:=w.heap.size<=w'.heap.size/\∀j,j<w.heap.size->(∃a b,w.heap[j]?=iC (.cells a e b))\/w'.heap[j]?=w.heap[j]?
def CW.of_below{e:TypeId}{w w':jD}(h:η w w'):CW e w w':=⟨h.size,λj a=>.inr (h.block j a)⟩
def CW.trans{e:TypeId}{a b c:jD}(h:CW e a b)(k:CW e b c):CW e a c:=by
 refine⟨Bq h.1 k.1,λj g=>?_⟩;rcases h.2 j g with d|d
 ·exact .inl d
 ·rcases k.2 j (Be g h.1)with⟨i,l,f⟩|f
  ·exact .inl ⟨i,l,d▸f⟩
  ·exact .inr (f.trans d)
def CW.AX{e:TypeId}{w:jD}{g:Nat}{xs:List jL}(h:CB w g e xs)(i:Nat)(u:jL):CW e w (w.setCell (Δ g i) u):=by
 refine⟨by simp[D9,Qh],λj b=>?_⟩;by_cases a:j=g
 ·exact .inl ⟨_,_,a▸h⟩
 ·exact .inr (by simp only[D9,SN];rw[ku (λe=>a e.symm)])
def CW.kept{e:TypeId}{w w':jD}{base k n:Nat}{v:jL}{xs:List jL}(h:w.ownsRow base e k v n xs)(c:Kept w w' v.ownBlock):CW e w w':=by
 refine⟨c.1,λj f=>?_⟩;by_cases a:iC j=v.ownBlock
 ·rcases h.2 with⟨b,_⟩|⟨l,g,i,b,_,d,_⟩
  ·subst b;simp[AV]at a
  ·subst b;simp[AV]at a;subst a;exact .inl ⟨_,_,d⟩
 ·exact .inr (c.2 j f a)
def CW.own{e f:TypeId}(o:f≠e){w w':jD}{base k n:Nat}{v:jL}{xs:List jL}(s:CW e w w')(h:w.ownsRow base f k v n xs):w'.ownsRow base f k v n xs:=by
 refine⟨h.1,?_⟩;rcases h.2 with b|⟨d,g,i,b,l,c,m⟩
 ·exact .inl b
 ·refine .inr ⟨d,g,i,b,l,?_,m⟩;rcases s.2 d (AA.1 c).1 with⟨p,q,a⟩|a
  ·rw[c]at a;injection a with a;injection a with _ j;exact absurd j o
  ·rw[a,c]
def CW.nd{w w':jD}{base:Nat}{v:jL}{x:Nd}(s:CW 176 w w')(h:YW w base v x):YW w' base v x:=by
 obtain⟨a,d,b,e,c,f,g,i,j,k⟩:=h;exact⟨a,d,b,e,c,f,g,s.own U i,s.own U j,s.own U k⟩
def YW.mono{w:jD}{base base':Nat}{v:jL}{x:Nd}(h:YW w base v x)(a:base'<=base):YW w base' v x:=by
 obtain⟨b,e,c,f,d,g,i,j,k,l⟩:=h;exact⟨b,e,c,f,d,g,i,EU j a,EU k a,EU l a⟩
def PlV(w:jD)(base:Nat)(f:List jL)(a:Pl):Prop:=
 ∃b c e d,f=[b,c,e,d,fP gZ a.off,fP .u8 (a.label.toNat:Int),fP gZ a.word]/\YW w base (.agg #[b,c,e,d]) a.nd
def X4(w:jD)(base:Nat):List (List jL)->List Pl->Prop
 |[],[]=>True
 |a::b,p::c=>PlV w base a p/\X4 w base b c
 |_,_=>False
def CW.pl{w w':jD}{base:Nat}{a:List jL}{p:Pl}(s:CW 176 w w')(h:PlV w base a p):PlV w' base a p:=by
 obtain⟨b,c,e,d,f,h⟩:=h;exact⟨b,c,e,d,f,s.nd h⟩
def CW.pls{w w':jD}{base:Nat}(s:CW 176 w w'):∀(vs:List (List jL))(a:List Pl),X4 w base vs a->X4 w' base vs a
 |[],[],_=>trivial
 |_::vs,_::a,h=>⟨s.pl h.1,s.pls vs a h.2⟩
 |[],_::_,h=>h.elim
 |_::_,[],h=>h.elim
def X4.app{w:jD}{base:Nat}{c:List jL}{p:Pl}(b:PlV w base c p):∀(vs:List (List jL))(a:List Pl),X4 w base vs a->X4 w base (vs++[c]) (a++[p])
 |[],[],_=>⟨b,trivial⟩
 |_::vs,_::a,h=>⟨h.1,X4.app b vs a h.2⟩
 |[],_::_,h=>h.elim
 |_::_,[],h=>h.elim
def OO(w:jD)(base:Nat)(v:jL)(b:List Pl):Prop:=
 ∃a,w.ownsRow base 176 7 v b.length (a.flatten)/\X4 w base a b
def OO.nil(w:jD)(base:Nat):OO w base (fD iD 0 0) []:=⟨[],World.ownsRow_nil _ _ _ _,trivial⟩
def OO.app{w w':jD}{base:Nat}{b:jL}{a:List Pl}{vs:List (List jL)}{c:List jL}{p:Pl}(h:X4 w base vs a)(e:PlV w base c p)(s:CW 176 w w')
 (d:w'.ownsRow base 176 7 b (a.length+1) (vs.flatten++c)):OO w' base b (a++[p]):=
 ⟨vs++[c],by simpa using d,(s.pls vs a h).app (s.pl e)⟩
def RD(w:jD)(base:Nat)(A:Option Addr)(l:List UInt8):Prop:=
 Bs w A l.length l/\∀a d,A=iC (Δ a d)->base<=a/\∃b c,w.heap[a]?=iC (.cells b 5 c)
def CW.rs{w w':jD}{base:Nat}{A:Option Addr}{l:List UInt8}(s:CW 176 w w')(h:RD w base A l):RD w' base A l:=by
 have k:∀a b,A=iC (Δ a b)->w'.heap[a]?=w.heap[a]?:=λa b c=>by
  obtain⟨_,g,i,e⟩:=h.2 a b c;rcases s.2 a (AA.1 e).1 with⟨t,u,d⟩|d
  ·rw[e]at d;injection d with d;injection d with _ m;exact absurd m U
  ·exact d
 refine⟨⟨h.1.1,λr=>?_⟩,λa b c=>?_⟩
 ·obtain⟨f,b,c,o,p⟩:=h.1.2 r;exact⟨f,b,c,Be o s.1,λj q=>(World.cell?_of_block (w:=w) (k f b c)).trans (p j q)⟩
 ·obtain⟨n,g,i,e⟩:=h.2 a b c;exact⟨n,g,i,(k a b c).trans e⟩
def RD.OH{w:jD}{base n c:Nat}{A:Option Addr}{l:List UInt8}(h:w.ownsRow base 5 1 (fD A n c) n (l.map bv))(g:n=l.length):RD w base A l:=by
 subst g;refine⟨(CQ h).2,λm p a=>?_⟩;rcases h.2 with⟨b,_⟩|⟨o,i,j,b,e,f,_⟩
 ·simp only[Value.slice.injEq]at b;rw[b.1]at a;cases a
 ·simp only[Value.slice.injEq]at b;rw[b.1]at a;injection a with a;injection a with d k;subst d;exact⟨e,_,_,f⟩
def RD.drop{w:jD}{base g off:Nat}{l:List UInt8}(h:RD w base (iC (Δ g off)) l)(k:Nat)(p:k<=l.length):RD w base (iC (Δ g (off+k))) (l.drop k):=by
 refine⟨⟨by simp,λi=>?_⟩,λo m a=>?_⟩
 ·simp only[AQ]at i;obtain⟨n,m,a,d,e⟩:=h.1.2 O;injection a with a;injection a with b c;subst b c
  refine⟨_,_,rfl,d,λj f=>?_⟩;simp only[AQ]at f;rw[Nat.add_assoc,e (k+j) O,List.map_drop,List.getElem?_drop]
 ·injection a with a;injection a with b c;subst b
  exact h.2 _ _ rfl
def RD.cut{w:jD}{base b off c:Nat}{l:List UInt8}(h:RD w base (iC (Δ b off)) l)(k:Nat)(a:k<=l.length)(e:l.length<=c):RD w base (if c=k then iC (Δ b off)else iC (Δ b (off+k))) (l.drop k):=by
 split
 ·refine⟨⟨by simp,λd=>?_⟩,h.2⟩;simp only[AQ]at d;omega
 ·exact h.drop k a
def Kept.trans'{a b c:jD}{r:Option Nat}(h:Kept a b r)(k:Kept b c r):Kept a c r:=
 ⟨Bq h.1 k.1,λj d e=>(k.2 j (Be d h.1) e).trans (h.2 j d e)⟩
def Kept.of_below{a b:jD}{r:Option Nat}(h:η a b):Kept a b r:=⟨h.size,λj c _=>h.block j c⟩
def Kept.AX(w:jD)(g i:Nat)(u:jL):Kept w (w.setCell (Δ g i) u) (iC g):=
 ⟨by simp[D9,Qh],λj _ b=>by simp only[D9,SN];rw[ku (λa=>b (by rw[a]))]⟩
def Ff{w w':jD}{base k n:Nat}{e:TypeId}{v:jL}{xs:List jL}{r:Option Nat}(h:w.ownsRow base e k v n xs)(l:Kept w w' r)(a:r≠v.ownBlock\/v.ownBlock=iD):w'.ownsRow base e k v n xs:=by
 refine⟨h.1,?_⟩
 rcases h.2 with b| ⟨c,f,g,b,i,d,j⟩
 ·exact .inl b
 ·refine .inr ⟨c,f,g,b,i,?_,j⟩
  subst b
  rw [l.2 c (AA.1 d).1 (fun e=>by rcases a with a| a
                                  ·exact a (by rw [<-e];rfl)
                                  ·simp [AV]at a)]
  exact d
def lenOf:jL->Nat
 | .slice _ a _=>a
 |_=>0
def sJ(s:St)(key:List UInt8)(w:jD)(e:Ending)(w':jD):Prop:=
 η w w'/\match ER s key with
  |none=>e=gY (gJ #[fD iD 0 0,fD iD 0 0,fP gZ 5])
  |some (f,a)=>∃d b c,e=gY (gJ #[d,fD b a.length c,fP gZ 0])/\OO w' w.heap.size d f/\RD w' w.heap.size b a/\a.length<=c
def bz(l:List UInt8):(Ci l).length=2*l.length:=by
 induction l with
 |nil=>rfl
 |cons b t a=>simp[Ci]at a⊢;omega
def Aim(s:St)(_:Nat)(key:List UInt8)(w:jD)(i:Nat)(u7 u8 u10:jL)(wr:jD):Prop:=
 ∃(e:Nat)(c:Option Addr)(d:Nat)(a:List UInt8)(g:UInt64)(f:UInt8)(j:Int)(b:List Pl)(k l m n o:jL),
  u7=fD c a.length d/\u8=fP ig (g.toNat:Int)/\Es s e g a f j b=ER s key/\a.length<e/\a.length<=d/\b.length+a.length<=2*key.length/\
  CB wr i 176 [k,l,m,n,o,fP .u8 (f.toNat:Int),fP gZ j]/\OO wr w.heap.size u10 b/\(iC i≠u10.ownBlock)/\RD wr w.heap.size c a/\η w wr
def jq(l:List UInt64):(Fb l).kids.length<=16/\(Fb l).labels.length<=16:=by
 unfold Fb;split
 ·unfold Ahd Jp
  dsimp only
  split<;>simp[digits_length]<;>omega
 ·unfold xU;have:=ZA ((l.drop 4).take 16);simp at this;simp[P7];omega
def MR{s:St}{c:UInt64}{a:Nd}(h:FC s c=iC a):a.pre.length<=15/\a.kids.length<=16/\a.labels.length<=16:=by
 unfold FC at h;split at h
 ·cases h
 ·split at h
  ·rename_i b;injection h with h
   subst h;refine⟨?_,(jq _).1,(jq _).2⟩;unfold Jd at b;simp only[Bool.and_eq_true]at b;exact((Bh _).1 b.2.1).1
  ·cases h
def EJ{w:jD}{g:Nat}{e:TypeId}{a b c d k l m:jL}(h:CB w g e [a,b,c,d,k,l,m]):w.cell? (Φ g)=iC a/\w.cell? (Δ g 1)=iC b/\w.cell? (Δ g 2)=iC c/\w.cell? (Δ g 3)=iC d/\w.cell? (Δ g 4)=iC k/\w.cell? (Δ g 5)=iC l/\w.cell? (Δ g 6)=iC m:=
 ⟨h.cell 0,h.cell 1,h.cell 2,h.cell 3,h.cell 4,h.cell 5,h.cell 6⟩
def wrap64(a:Int)(h1: -9223372036854775808<=a)(h2:a<9223372036854775808):IntKind.i64.wrap a=a:=by
 simp only[IntKind.wrap,IntKind.bits,IntKind.signed,Bool.true_and,decide_eq_true_eq,show(2:Int)^(64-1)=9223372036854775808 from rfl,show(2:Int)^64=18446744073709551616 from rfl];split<;>omega
def Wy{len:Mode}{w:jD}{x d p L:Nat}{s:St}{F:Nat->Prop}(h:J6 len w x d p L s F){b:UInt64}{l:Nd}(a:FC s b=iC l):0<=Bf b/\Bf b<=65536:=by
 obtain⟨q,r,m,e⟩:=h.L0;unfold FC at a;split at a
 ·cases a
 ·rename_i f;obtain⟨o,n,i,k,j,g⟩:=Wv f;rw[k];have:=m.fits;rw[e]at i;rcases j with c|c<;>rw[c]at g⊢<;>omega
def Aek{c:Nd}{b:UInt8}{a:UInt64}{d:Nat}(h:PU c b=iC (a,d)):YQ c b=gJ #[fP ig (a.toNat:Int),fP gZ (d:Int),fU jm]:=by
 unfold PU Jq at h;unfold YQ;split at h
 ·rename_i j g;rw[g];split at h
  ·rename_i i;injection h with h
   injection h with e f
   subst e f;simp only[i,if_true];split<;>rfl
  ·cases h
 ·cases h
def Ael{c:Nd}{b:UInt8}(h:PU c b=iD):YQ c b=gJ #[fP ig 0,fP gZ 0,fU jw]:=by
 unfold PU Jq at h;unfold YQ;split at h
 ·rename_i e a;rw[a];split at h
  ·cases h
  ·rename_i d;simp only[d];rfl
 ·rename_i a;rw[a]
def zn{b:Nd}{a:UInt8}{f:UInt64}{c:Nat}(h:PU b a=iC (f,c))(j:b.labels.length<=16):c<=300:=by
 unfold PU Jq at h;have:=a.toNat_lt;split at h
 ·rename_i k e;have i:=(LM.1 e).1;split at h
  ·injection h with h
   injection h with g d
   subst d;split<;>omega
  ·cases h
 ·cases h
def Ap1{w:jD}{base c j d k e l:Nat}{f g i:Option Addr}{x:Nd}(h:YW w base (.agg #[fD f c j,fP ig (x.val.toNat:Int),fD g d k,fD i e l]) x)(m:c<=1000000)(n:d<=1000000)(o:e<=1000000)(b:UInt8):
 Calls prog 131 #[.agg #[fD f c j,fP ig (x.val.toNat:Int),fD g d k,fD i e l],fP .u8 (b.toNat:Int)] w λa w'=>a=gY (YQ x b)/\η w w':=by
 obtain⟨_,_,_,_,_,_,a,p,q,r⟩:=h;simp only[Value.agg.injEq]at a;simp at a;obtain⟨⟨rfl,rfl,rfl⟩,⟨rfl,rfl,rfl⟩,⟨rfl,rfl,rfl⟩⟩:=a;exact Ahk _ _ _ _ _ _ _ _ _ x b w m n o (CQ p).2 (CQ q).2 (CQ r).2
section
variable{len:Mode}{w w':jD}{x d p L:Nat}{s:St}{F:Nat->Prop}
def KI(h:J6 len w x d p L s F)(key:ByteArray)(dy:key.size<=1000):Calls prog 84 #[ptr0 x,fQ key] w (sJ s key.data.toList w):=by
 have bC:=Ac h
 have cd:=Ac (Ahg key w O)
 have cq:=Ac (λ(am:jD)(ao:η w am)=>bf (bC.below ao))
 have dp:=Ac (λ(am:jD)(ao:η w am)=>MQ (bC.below ao))
 clear h
 go_enter func84,ntmps84
 go_wp2_with fail
 refine cd.mono ?_
 rintro j dr⟨v,rfl,bR,bH⟩
 obtain⟨E,n,rfl,db,dd⟩:=Cj bR
 have cc:=Ac bR
 clear cd bR dd
 go_wp2_with fail
 refine(cq dr bH).mono ?_
 rintro j a3⟨rfl,bJ⟩
 have cj:=Ac (own_below cc.out bJ)
 have bL:=τ bH bJ
 clear cc bH bJ cq
 go_wp2_with fail
 obtain⟨aR,aV⟩:=ε (a3.alloc (.cells #[fD iD 0 0,fP ig 0,fD iD 0 0,fD iD 0 0,fP gZ 0,fP .u8 0,fP gZ 72] 176))
 have bE:η a3 aR:=by rw [aV];exact(Below.refl _ _).alloc (Ae _) _
 have br:CB aR a3.heap.size 176 [fD iD 0 0,fP ig 0,fD iD 0 0,fD iD 0 0,fP gZ 0,fP .u8 0,fP gZ 72]:=by rw [aV];exact heap_alloc_new _ _
 have cw:η w aR:=τ bL bE
 have cv:=RD.OH (own_below cj.out bE) (by rw [bz];simp)
 rw [<-aV]
 have aa:(Ci key.data.toList).length=2*key.size:=by rw [bz];simp
 have t:=bL.size
 obtain⟨c,b1⟩:∃c,a3.heap.size=c:=⟨_,rfl⟩
 rw [b1]at br t⊢
 have b8:Hid (Aim s L key.data.toList w c (fD E (2*key.size) n) (fP ig ((s.ws 9).toNat:Int)) (fD iD 0 0) aR):=
  Ac ⟨2*key.size+1,E,n,Ci key.data.toList,s.ws 9,0,72,[],_,_,_,_,_,by rw [aa],rfl,by simp [ER],O,O,by simp [aa],br,OO.nil _ _,by simp [AV],cv,cw⟩
 clear aV bE br cw cv cj aa db bL b1
 go_loopw [7,8,10](λu7 u8 u10 wr=>Aim s L key.data.toList w c u7 u8 u10 wr)(λu7 _ _ _=>lenOf u7)
 case atStart=>exact b8.out
 case round=>
  clear b8
  obtain⟨Z,E,n,g,b,k,m,i,c3,c4,c5,c6,ds,rfl,rfl,cE,cD,cy,aa,ct,ci,cF,cG,cx⟩:=hrel
  obtain⟨Z,rfl⟩:∃c8,Z=c8+1:=⟨Z-1,O⟩
  have al:=Ac ct
  have bi:=Ac ci
  have a2:=Ac cF
  have bs:=Ac cG
  have W:=Ac cE
  have a1:=Ac cx
  have P:=Ac (And.intro cD (And.intro cy aa))
  clear ct ci cF cG cE cx cD cy aa
  by_cases ar:b=0
  ·have K:Hid (ER s key.data.toList=iC (i,g)):=Ac (by rw [<-W.out,Es,jM ar])
   have t0:(((b.toNat:Nat):Int)==0)=jm:=by subst ar;rfl
   clear W
   go_wp2_with fail
   refine bodyPost_ret (v:= gJ #[u10,fD E g.length n,fP gZ 0]) (by simp [results,results84,go_sem]) rfl ?_
   refine⟨a1.out,?_⟩
   rw [K.out]
   exact⟨_,E,n,rfl,bi.out,bs.out,P.2.1⟩
  ·have t0:(((b.toNat:Nat):Int)==0)=jw:=by
    rw [beq_eq_false_iff_ne];intro j;apply ar
    exact DN.1 (by have:b.toNat=0:=O
                   rw [this];rfl)
   have f4:=al.frozen 4
   have av:=al.cell 4
   simp only [Am,Ag]at av
   have dk:IntKind.i64.wrap (b.toNat:Int)=Bf b:=rfl
   go_wp2_with fail
   have aJ:=al.AX 4 (Aw gZ (Bf b))
   have bS:=CW.AX al.out 4 (Aw gZ (Bf b))
   have cL:=Kept.AX wr c 4 (Aw gZ (Bf b))
   have bj:=a1.setCell (p:=Δ c 4) t (Aw gZ (Bf b))
   have dj:w.heap.size<=wr.heap.size:=a1.size
   generalize wr.setCell (Δ c 4) (Aw gZ (Bf b))=bD at*
   have ck:=Ac bS
   replace aJ:CB bD c 176 [c3,c4,c5,c6,fP gZ (Bf b),fP .u8 (k.toNat:Int),fP gZ m]:=aJ
   have cH:w.heap.size<=bD.heap.size:=Bq dj bS.1
   clear f4 av dk bS
   refine(dp bD bj b).mono ?_
   rintro j bX⟨ap,ab⟩
   have cl:=Ac (ck.trans (CW.of_below ap))
   have cg:=Ac (cL.trans' (Kept.of_below ap))
   clear cL
   have f:=aJ.ξ ap
   have bN:=bj.trans (ap.mono cH)
   clear aJ bj ap ck
   cases ac:FC s b with
   | none=>
     rw [ac]at ab
     dsimp only at ab
     subst ab
     have K:Hid (ER s key.data.toList=iD):=Ac (by rw [<-W.out,Es,ku ar,ac])
     have f0:=f.frozen 0
     have f1:=f.frozen 1
     have f2:=f.frozen 2
     have f3:=f.frozen 3
     have bc:=f.cell 0
     have bd:=f.cell 1
     have be:=f.cell 2
     have bg:=f.cell 3
     simp only [Am,Ag]at bc bd be bg
     clear ac W
     go_wp2_with fail
     refine bodyPost_ret (v:= gJ #[fD iD 0 0,fD iD 0 0,fP gZ 5]) (by simp [results,results84,go_sem]) rfl ?_
     refine⟨(((bN.setCell (p:=Φ c) t _).setCell (p:=Δ c 1) t _).setCell (p:=Δ c 2) t _).setCell (p:=Δ c 3) t _,?_⟩
     rw [K.out]
   | some a=>
     rw [ac]at ab
     dsimp only at ab
     obtain⟨v,rfl,o,q,y,B,z,C,rfl,cN,cP,cQ⟩:=ab
     have cb:=Ac (show YW bX w.heap.size (.agg #[fD o a.pre.length q,fP ig (a.val.toNat:Int),fD y a.labels.length B,fD z a.kids.length C]) a from YW.mono ⟨o,q,y,B,z,C,rfl,cN,cP,cQ⟩ cH)
     have bk:=Ac ac
     clear ac cN cP cQ
     have f0:=f.frozen 0
     have f1:=f.frozen 1
     have f2:=f.frozen 2
     have f3:=f.frozen 3
     have bc:=f.cell 0
     have bd:=f.cell 1
     have be:=f.cell 2
     have bg:=f.cell 3
     have av:=f.cell 4
     have cT:=f.cell 5
     have cU:=f.cell 6
     simp only [Am,Ag]at bc bd be bg av cT cU
     obtain⟨cS,cI,cJ⟩:=bi.out
     have b6:=(((f.AX 0 (Ad o a.pre.length q)).AX 1 (Aw ig (a.val.toNat:Int))).AX 2 (Ad y a.labels.length B)).AX 3 (Ad z a.kids.length C)
     have bY:=(((bN.setCell (p:=Φ c) t (Ad o a.pre.length q)).setCell (p:=Δ c 1) t (Aw ig (a.val.toNat:Int))).setCell (p:=Δ c 2) t (Ad y a.labels.length B)).setCell (p:=Δ c 3) t (Ad z a.kids.length C)
     have cm:=cl.trans ((((CW.AX f 0 (Ad o a.pre.length q)).trans (CW.AX (f.AX 0 _) 1 (Aw ig (a.val.toNat:Int)))).trans (CW.AX ((f.AX 0 _).AX 1 _) 2 (Ad y a.labels.length B))).trans (CW.AX (((f.AX 0 _).AX 1 _).AX 2 _) 3 (Ad z a.kids.length C)))
     have ch:=cg.trans' ((((Kept.AX _ c 0 (Ad o a.pre.length q)).trans' (Kept.AX _ c 1 (Aw ig (a.val.toNat:Int)))).trans' (Kept.AX _ c 2 (Ad y a.labels.length B))).trans' (Kept.AX _ c 3 (Ad z a.kids.length C)))
     have bx:=Ac (Ff cI ch (.inl a2.out))
     have bl:=Ac (((((CW.AX f 0 (Ad o a.pre.length q)).trans (CW.AX (f.AX 0 _) 1 (Aw ig (a.val.toNat:Int)))).trans (CW.AX ((f.AX 0 _).AX 1 _) 2 (Ad y a.labels.length B))).trans (CW.AX (((f.AX 0 _).AX 1 _).AX 2 _) 3 (Ad z a.kids.length C))).nd cb.out)
     have bt:=Ac cm
     have aM:=Ac b6
     have b2:=Ac bY
     have ce:=Ac (bt.pls cS i cJ)
     have cK:=bY.size
     have dc:i.length<=1000000:=by have:=P.out;simp at this;omega
     clear cm ch b6 bY cI cJ
     go_wp2_with(at_builtin;refine BC rfl (.tmp 42) (.tmp 44) 170 rfl Tryz.Ail ((((bX.setCell (Φ c) (Ad o a.pre.length q)).setCell (Δ c 1) (Aw ig (a.val.toNat:Int))).setCell (Δ c 2) (Ad y a.labels.length B)).setCell (Δ c 3) (Ad z a.kids.length C)) w.heap.size u10 i.length cS.flatten [Ad o a.pre.length q,Aw ig (a.val.toNat:Int),Ad y a.labels.length B,Ad z a.kids.length C,fP gZ (Bf b),fP .u8 (k.toNat:Int),fP gZ m] rfl bx.out rfl bX.heap.size 1 rfl (by simp [D9,Qh]) rfl U (by simp [Value.oneCell']) dc U cK ?_;intro G M a4 co cn bG cr;have bp:=(bG.2 c aM.lt a2.out).trans aM.out;obtain⟨a5,a6,a7,a8,a9,ba,bb⟩:=EJ bp)
     have aZ:=CW.kept bx.out bG
     have b9:Hid (CB a4 c 176 [fD o a.pre.length q,fP ig (a.val.toNat:Int),fD y a.labels.length B,fD z a.kids.length C,fP gZ (Bf b),fP .u8 (k.toNat:Int),fP gZ m]):=Ac bp
     have cf:=Ac (OO.app ce.out (p:=⟨a,Bf b,k,m⟩) ⟨_,_,_,_,rfl,bl.out⟩ aZ co)
     have bm:=Ac ((bt.trans aZ).rs bs.out)
     have bo:=Ac (aZ.nd bl.out)
     have b0:=Ac (b2.trans cn)
     have b3:Hid (c≠G):=Ac (λj=>by
      rcases cr with cs| cs
      ·exact a2 (by rw [cs,j])
      ·have:=aM.lt;simp only[Δ,Φ]at this cs;omega)
     clear aZ bp co cn bG cr bx ce bl bt aM b2 bi bs al a2 a1 cb cl cg f bN f0 f1 f2 f3 bc bd be bg av cT cU cK
     obtain⟨dt,du,c7⟩:=MR bk.out
     obtain⟨e,aW⟩:=ε (common a.pre g)
     have de:g.length<=4294967296:=by have:=P.out;simp at this;omega
     refine(MH o E a.pre.length g.length q n a.pre g a4 O de (by obtain⟨_,_,_,_,_,_,j,dq,_,_⟩:=bo.out;simp only [Value.agg.injEq]at j;simp at j;obtain⟨⟨rfl,rfl⟩,_⟩:=j;exact(CQ dq).2) bm.1).mono ?_
     rintro j D⟨rfl,cB⟩
     rw [<-aW]
     have ae:=cB.below a4.heap.size
     have a0:CW 176 a4 D:=CW.of_below ae
     have bq:=b9.out.ξ ae
     have bA:Hid (OO D w.heap.size (fD (iC (Φ G)) (i.length+1) M) (i++[⟨a,Bf b,k,m⟩])):=Ac (by
      obtain⟨J,H,I⟩:=cf.out
      exact⟨J,Ff H (Kept.of_below (r:=iD) ae) (.inl (by simp [AV])),a0.pls _ _ I⟩)
     have az:=Ac (a0.rs bm.out)
     have cV:=Ac (a0.nd bo.out)
     have bh:=Ac (τ b0.out ae)
     have c0:=Ac bq
     obtain⟨a5,a6,a7,a8,a9,ba,bb⟩:=EJ bq
     have aw:Hid ((if e<a.pre.length\/e=g.length then iC (i++[⟨a,Bf b,k,m⟩],g)else
      match PU a (g.getD e 0)with
      | none=>iC (i++[⟨a,Bf b,k,m⟩],g)
      | some (aX,l)=>Es s Z aX (g.drop (e+1)) (g.getD e 0) (Bf b+8*l) (i++[⟨a,Bf b,k,m⟩]))=ER s key.data.toList):=Ac (by
      rw [<-W.out,Es,ku ar,bk.out,aW]
      rfl)
     have c2:=Ac aW
     clear cB ae a0 bq cf bm bo b0 b9 aW W
     by_cases S:e<a.pre.length\/e=g.length
     ·have K:Hid (ER s key.data.toList=iC (i++[⟨a,Bf b,k,m⟩],g)):=Ac (by rw [<-aw.out,jM S])
      have cp:sJ s key.data.toList w (gY (gJ #[fD (iC (Φ G)) (i.length+1) M,fD E g.length n,fP gZ 0])) D:=by
       refine⟨bh.out,?_⟩
       rw [K.out]
       exact⟨_,E,n,rfl,bA.out,az.out,P.2.1⟩
      have ca:=Ac cp
      clear cp K aw
      by_cases T:e<a.pre.length
      ·have t1:decide ((e:Int)<(a.pre.length:Int))=jm:=decide_eq_true O
       have cR:decide (e<a.pre.length)=jm:=decide_eq_true T
       clear S T
       go_wp2_with fail
       refine bodyPost_ret (v:= gJ #[fD (iC (Φ G)) (i.length+1) M,fD E g.length n,fP gZ 0]) (by simp [results,results84,go_sem]) rfl ca.out
      ·have t1:decide ((e:Int)<(a.pre.length:Int))=jw:=decide_eq_false O
       have cR:decide (e<a.pre.length)=jw:=decide_eq_false T
       have t2:((e:Int)==(g.length:Int))=jm:=by rw [beq_iff_eq];omega
       clear S T
       go_wp2_with fail
       refine bodyPost_ret (v:= gJ #[fD (iC (Φ G)) (i.length+1) M,fD E g.length n,fP gZ 0]) (by simp [results,results84,go_sem]) rfl ca.out
     ·have T:¬e<a.pre.length:=λj=>S (.inl j)
      have dh:e≠g.length:=λj=>S (.inr j)
      have bO:e<g.length:=by have:=Kw a.pre g;rw [<-c2.out]at this;omega
      have ah:=Ac aw.out
      rw [ku S]at ah
      have t1:decide ((e:Int)<(a.pre.length:Int))=jw:=decide_eq_false O
      have cR:decide (e<a.pre.length)=jw:=decide_eq_false T
      have t2:((e:Int)==(g.length:Int))=jw:=ζ O
      obtain⟨Y,ad,rfl,da,cA⟩:=az.1.2 O
      have cz:D.cell? (Δ Y (ad+e))=iC (fP .u8 ((g.getD e 0).toNat:Int)):=by
       rw [cA e bO,DJ,Ah bO,List.getD_eq_getElem?_getD,Ah bO];rfl
      generalize g.getD e 0=u at*
      clear cA aw S T dh
      have aD:=Ac (λ(am:jD)(ao:η D am)=>Ap1 ((CW.of_below ao).nd cV.out) O O O u)
      cases R:PU a u with
      | none=>
        have bw:=Ac (Ael R)
        rw [bw.out]at aD
        have K:Hid (ER s key.data.toList=iC (i++[⟨a,Bf b,k,m⟩],g)):=Ac (by rw [<-ah.out,R])
        clear R ah
        go_wp2_with fail
        go_region_with(go_at_call 131;go_loud(refine(aD _ ((Dr.drew _).below _)).mono ?_;rintro j N⟨rfl,aq⟩))
        all_goals(have A:=((Dr.drew D).below D.heap.size).trans aq)
        all_goals(have V:CW 176 D N:=CW.of_below A)
        all_goals(have aL:Hid (OO N w.heap.size (fD (iC (Φ G)) (i.length+1) M) (i++[⟨a,Bf b,k,m⟩])):=Ac (by
         obtain⟨J,H,I⟩:=bA.out
         exact⟨J,Ff H (Kept.of_below (r:=iD) A) (.inl (by simp [AV])),V.pls _ _ I⟩))
        all_goals(have aE:=Ac (V.rs az.out))
        all_goals(have aF:=Ac (τ bh.out A))
        all_goals(clear A V aq)
        all_goals(go_wp2_with fail)
        all_goals(refine bodyPost_ret (v:= gJ #[fD (iC (Φ G)) (i.length+1) M,fD (iC (Δ Y ad)) g.length n,fP gZ 0]) (by simp [results,results84,go_sem]) rfl ?_)
        all_goals(refine⟨aF.out,?_⟩)
        all_goals(rw [K.out])
        all_goals(exact⟨_,_,n,rfl,aL.out,aE.out,P.2.1⟩)
      | some dn=>
        obtain⟨aX,l⟩:=dn
        have bw:=Ac (Aek R)
        rw [bw.out]at aD
        have dz:=zn R c7
        have cW:Hid (Es s Z aX (g.drop (e+1)) u (Bf b+8*l) (i++[⟨a,Bf b,k,m⟩])=ER s key.data.toList):=Ac (by rw [<-ah.out,R])
        have dD:IntKind.i64.wrap (8*(l:Int))=8*(l:Int):=wrap64 _ O O
        have dg:=Wy bC.out bk.out
        have dG:IntKind.i64.wrap (Bf b+8*(l:Int))=Bf b+8*(l:Int):=wrap64 _ O O
        have dL:IntKind.i64.wrap ((e:Int)+1)=(e:Int)+1:=wrap64 _ O (by have:=P.out;simp at this;omega)
        clear dg
        clear R ah
        go_wp2_with fail
        go_region_with(go_at_call 131;go_loud(refine(aD _ ((Dr.drew _).below _)).mono ?_;rintro j N⟨rfl,aq⟩))
        all_goals(have A:=((Dr.drew D).below D.heap.size).trans aq)
        all_goals(have V:CW 176 D N:=CW.of_below A)
        all_goals(have aL:Hid (OO N w.heap.size (fD (iC (Φ G)) (i.length+1) M) (i++[⟨a,Bf b,k,m⟩])):=Ac (by
         obtain⟨J,H,I⟩:=bA.out
         exact⟨J,Ff H (Kept.of_below (r:=iD) A) (.inl (by simp [AV])),V.pls _ _ I⟩))
        all_goals(have aE:=Ac (V.rs az.out))
        all_goals(have aF:=Ac (τ bh.out A))
        all_goals(have Q:=Ac (c0.out.ξ A))
        all_goals(have cX:=(A.cell (p:=Δ Y (ad+e)) da).trans cz)
        all_goals(clear A V aq)
        all_goals(clear cz a5 a6 a7 a8 a9 ba bb)
        all_goals(obtain⟨a5,a6,a7,a8,a9,ba,bb⟩:=EJ Q.out)
        all_goals(have f5:=Q.out.frozen 5)
        all_goals(have f6:=Q.out.frozen 6)
        all_goals(go_wp2_with fail)
        all_goals(go_region)
        all_goals(have b7:=(Q.out.AX 5 (Aw .u8 (u.toNat:Int))).AX 6 (Aw gZ (Bf b+8*(l:Int))))
        all_goals(have bV:=(CW.AX Q.out 5 (Aw .u8 (u.toNat:Int))).trans (CW.AX (Q.out.AX 5 (Aw .u8 (u.toNat:Int))) 6 (Aw gZ (Bf b+8*(l:Int)))))
        all_goals(have cM:=(Kept.AX N c 5 (Aw .u8 (u.toNat:Int))).trans' (Kept.AX _ c 6 (Aw gZ (Bf b+8*(l:Int)))))
        all_goals(have b4:=(aF.out.setCell (p:=Δ c 5) t (Aw .u8 (u.toNat:Int))).setCell (p:=Δ c 6) t (Aw gZ (Bf b+8*(l:Int))))
        all_goals(have cC:=(Dr.drew ((N.setCell (Δ c 5) (Aw .u8 (u.toNat:Int))).setCell (Δ c 6) (Aw gZ (Bf b+8*(l:Int))))).below w.heap.size)
        all_goals(obtain⟨an,X⟩:=ε (World.drew ((N.setCell (Δ c 5) (Aw .u8 (u.toNat:Int))).setCell (Δ c 6) (Aw gZ (Bf b+8*(l:Int))))))
        all_goals(have bB:Hid (OO an w.heap.size (fD (iC (Φ G)) (i.length+1) M) (i++[⟨a,Bf b,k,m⟩])):=Ac (by
         obtain⟨J,H,I⟩:=aL.out
         rw [X]
         exact⟨J,Ff H cM (.inl (by simp [AV,b3.out])),(bV.trans (CW.of_below ((Dr.drew _).below _))).pls _ _ I⟩))
        all_goals(have cY:Hid (RD an w.heap.size (iC (Δ Y ad)) g):=Ac (by rw [X];exact bV.rs aE.out))
        all_goals(have b5:Hid (η w an):=Ac (by rw [X];exact b4.trans cC))
        all_goals(have c1:Hid (CB an c 176 [fD o a.pre.length q,fP ig (a.val.toNat:Int),fD y a.labels.length B,fD z a.kids.length C,fP gZ (Bf b),fP .u8 (u.toNat:Int),fP gZ (Bf b+8*(l:Int))]):=Ac (by rw [X];exact b7))
        all_goals(rw [<-X])
        all_goals(clear b7 bV cM b4 cC X Q aL aE aF a5 a6 a7 a8 a9 ba bb f5 f6 cX)
        all_goals(go_wp2_with fail)
        all_goals(go_quiet(fail))
        all_goals(have⟨dv,c9,dx⟩:=P.out)
        all_goals(go_roundw)
        all_goals first
         | (case measure=>(simp [lenOf];omega))
         | (case rel=>
            refine⟨_,_,_,_,_,_,_,_,_,_,_,_,_,_,_,_,_,_,_,_,_,_,_,_,_,_,_,_,_,_,_,_,_,_,_,_,_,_,_,_,_,_,_,_,_,_,_,_,_,_,_,_,_,_,_,_,_,_,_,_,_,_,_,_,_,_,_,_,_,_,_,_,_,_,_,_,?_,rfl⟩
            refine⟨Z,(if n=e+1 then iC (Δ Y ad)else iC (Δ Y (ad+(e+1)))),n- (e+1),g.drop (e+1),aX,u,Bf b+8*(l:Int),i++[⟨a,Bf b,k,m⟩],_,_,_,_,_,(by rw [AQ]),rfl,cW.out,(by rw [AQ];omega),(by rw [AQ];omega),(by rw [AP,AQ];simp only [List.length_singleton];omega),c1.out,?_,(by simp [AV,b3.out]),cY.cut (e+1) O c9,?_⟩
            ·first
             | (have dl:=bB.out;rw [AP];exact dl)
             | exact bB.out
             | (obtain⟨J,H,I⟩:=bB.out;exact⟨J,H,(CW.of_below ((Dr.one an _).below _)).pls _ _ I⟩)
            ·first
             | exact b5.out
             | exact b5.trans ((Dr.one _ _).below _))
end
structure Aen(L:Nat)(pl:Pl):Prop where
 word:∃j:Nat,pl.word=((8*j:Nat):Int)/\j<8*L
 off:∃o:Nat,pl.off=((8*o:Nat):Int)/\o+8<=8*L
 right:BU pl.nd=jm
 kids:pl.nd.kids.length<=16
 labels:pl.nd.labels.length<=16
def Acb{L:Nat}{s:St}(j:gI L s.sh)(k:s.tk.length=s.sh.BO){a:UInt64}{d:Nd}(h:FC s a=iC d):
 BU d=jm/\∃i:Nat,Bf a=((8*i:Nat):Int)/\i+(if d.kids.length<=4 then 8 else 32)<=8*L:=by
 unfold FC at h;split at h
 ·cases h
 ·rename_i e;obtain⟨p,l,m,o,n,t⟩:=Wv e;split at h
  ·rename_i f;injection h with h
   subst h;have b:=f;unfold Jd at b;simp only[Bool.and_eq_true,decide_eq_true_eq]at b;have c:=Hm (Fb (wordsAt s.ws ((Bf a).toNat/8) (8*Bd (DD s (Bf a)))));rw[b.2.2]at c;have g:(wordsAt s.ws ((Bf a).toNat/8) (8*Bd (DD s (Bf a)))).length=8*Bd (DD s (Bf a)):=by simp[wordsAt]
   rw[g]at c;refine⟨b.2.1,(s.sh.data+1024*p+64*Bd (DD s (Bf a))*l)/8,?_⟩;rw[<-c];have q:=j.fits;have r:=j.data;rw[k]at m;clear c g b f e;generalize Bd (DD s (Bf a))=u at*;generalize Bf a=v at*;subst o;rcases n with rfl|rfl<;>constructor<;>omega
  ·cases h
def Ap9{b:Nd}{a:UInt8}{k:UInt64}{c:Nat}(h:PU b a=iC (k,c)):c<(if b.kids.length<=4 then 8 else 32):=by
 unfold PU Jq at h;split at h
 ·rename_i o e;obtain⟨f,i,_⟩:=LM.1 e;split at h
  ·rename_i j;obtain⟨_,_,n,g,_⟩:=(Bh _).1 j;have m:a.toNat<16:=by
    have:=List.all_eq_true.1 g _ (List.getElem_mem f);simp only[beq_iff_eq]at i;unfold DV at this;simp only[decide_eq_true_eq]at this;omega
   injection h with h
   injection h with l d
   subst d;split
   ·omega
   ·omega
  ·cases h
 ·cases h
def jr{L:Nat}{s:St}(v:gI L s.sh)(p:s.tk.length=s.sh.BO):∀(f:Nat)(n:UInt64)(rest:List UInt8)(m:UInt8)(k:Int)(i e:List Pl)(g:List UInt8),
 (∃j:Nat,k=((8*j:Nat):Int)/\j<8*L)->(∀c∈i,Aen L c)->Es s f n rest m k i=iC (e,g)->(∀c∈e,Aen L c)/\g.length<=rest.length
 |0,n,rest,m,k,i,e,g,t,l,h=>by
  rw[Es]at h;injection h with h
  injection h with a b
  subst a b;exact⟨l,Ae _⟩
 |f+1,n,rest,m,k,i,e,g,t,l,h=>by
  rw[Es]at h;split at h
  ·injection h with h
   injection h with a b
   subst a b;exact⟨l,Ae _⟩
  ·split at h
   ·cases h
   ·rename_i C r;obtain⟨y,u,q,z⟩:=Acb v p r;obtain⟨G,w,x⟩:=MR r;have o:∀c∈i++[⟨C,Bf n,m,k⟩],Aen L c:=by
     intro c d;rcases AB.1 d with d|d
     ·exact l c d
     ·rw[BQ]at d;subst d;exact⟨t,⟨u,q,by split at z<;>omega⟩,y,w,x⟩
    split at h
    ·injection h with h
     injection h with a b
     subst a b;exact⟨o,Ae _⟩
    ·split at h
     ·injection h with h
      injection h with a b
      subst a b;exact⟨o,Ae _⟩
     ·rename_i B D A;have H:=Ap9 A;obtain⟨E,F⟩:=jr v p f B _ _ _ _ e g ⟨u+D,by rw[q];omega,O⟩ o h;refine⟨E,?_⟩;rw[AQ]at F;omega
def Uf{L:Nat}{s:St}(d:gI L s.sh)(e:1<L)(c:s.tk.length=s.sh.BO){key:List UInt8}{b:List Pl}{rest:List UInt8}(h:ER s key=iC (b,rest)):(∀a∈b,Aen L a)/\rest.length<=2*key.length:=by
 have:=jr d c _ _ _ _ _ _ _ _ ⟨9,rfl,O⟩ (by intro a h;cases h) h;rw[bz]at this;exact this
def TA:∀(a b:List UInt8),common a b=a.length->common a b=b.length->a=b:=by
 intro a b c d;induction a generalizing b with
 |nil=>cases b with
  |nil=>rfl
  |cons i t=>simp[common]at d
 |cons x t f=>cases b with
  |nil=>simp[common]at c
  |cons i g=>
   simp only[common]at c d;split at c
   ·rename_i e;rw[jM e]at d;simp only[Bv]at c d;rw[f g O O]
    simp_all
   ·simp at c
def zv(k:Int):jL:=fP gZ k
abbrev jy(w:jD)(x d p L:Nat)(q:Ms)(F:Nat->Prop):Prop:=J6 q.pw.mode w x d p L q.s F
structure Px(w:jD)(base jb x d p L:Nat)(j:Jm)(F:Nat->Prop)(v:jL):Prop where
 ix:jy w x d p L j.s F
 box:CB w jb 249 [ptr0 x,v]
 row:w.ownsRow base 3 1 v j.made.length (j.made.map zv)
 fj:¬F jb
 bj:base<=jb
 bx:x<base
 bt:0<base/\1<base
 mj:v.ownBlock≠iC jb
 mF:∀b,v.ownBlock=iC b->¬F b
 mb:∀o∈j.made,-9223372036854775808<=o/\o<=9223372036854775807
def FY(w:jD)(base jb x d p L:Nat)(j:Jm)(G:Nat->Prop):Prop:=∃F v,Px w base jb x d p L j F v/\∀a,G a<->(F a\/a=jb\/v.ownBlock=iC a)
section
variable{w w':jD}{base jb x d p L:Nat}{j:Jm}{F G:Nat->Prop}{v:jL}
def Px.xj(h:Px w base jb x d p L j F v):x≠jb:=Ψ h.bj h.bx
def Px.mlt(h:Px w base jb x d p L j F v):∀b,v.ownBlock=iC b->base<=b/\b<w.heap.size:=by
 intro b c;rcases h.row.2 with⟨a,_⟩|⟨k,g,i,a,e,f,_⟩
 ·subst a;simp[AV]at c
 ·subst a;simp only[AV,Option.some.injEq]at c;subst c;exact⟨e,(AA.1 f).1⟩
def Px.mx(h:Px w base jb x d p L j F v):v.ownBlock≠iC x:=λa=>Ψ ((h.mlt x a).1) h.bx
def Px.below(h:Px w base jb x d p L j F v)(k:η w w'):Px w' base jb x d p L j F v:=
 ⟨h.ix.below k,h.box.ξ k,Ff h.row (Kept.of_below (r:=iC jb) k) (.inl (λa=>h.mj a.symm)),h.fj,h.bj,h.bx,h.bt,h.mj,h.mF,h.mb⟩
def FY.below(h:FY w base jb x d p L j G)(k:η w w'):FY w' base jb x d p L j G:=by
 obtain⟨F,v,h,a⟩:=h;exact⟨F,v,h.below k,a⟩
def FY.lt(h:FY w base jb x d p L j G):∀a,G a->a<w.heap.size:=by
 obtain⟨F,v,h,c⟩:=h;intro a e;rcases(c a).1 e with b|rfl|b
 ·exact h.ix.sys.lt a b
 ·exact h.box.lt
 ·exact(h.mlt a b).2
def Px.move(h:Px w base jb x d p L j F v)(g:∀b,G b<->(F b\/b=jb\/v.ownBlock=iC b)){s':Ms}{c:Nat->Prop}(n:KF w' d p L s' c)(m:AL F c w w'):
 ∃i,Px w' base jb x d p L {j with s:=s'} c v/\(∀b,i b<->(c b\/b=jb\/v.ownBlock=iC b))/\AL G i w w':=by
 have o:=h.box.lt;refine⟨λb=>c b\/b=jb\/v.ownBlock=iC b,⟨h.ix.move n m,h.box.touch m.touch h.fj,Gj h.row m.touch h.mF,λe=>(m.own _ e).elim h.fj (λk=>O),h.bj,h.bx,h.bt,h.mj,λb a e=>(m.own _ e).elim (h.mF b a) (λk=>Ω ((h.mlt b a).2)),h.mb⟩,λ_=>Iff.rfl,m.touch.mono (λb a=>(g b).2 (.inl a)),λb a=>?_⟩;rcases a with f|f
 ·exact(m.own b f).imp (λl=>(g b).2 (.inl l)) id
 ·exact .inl ((g b).2 (.inr f))
def Px.app(h:Px w base jb x d p L j F v)(k:∀b,G b<->(F b\/b=jb\/v.ownBlock=iC b)){o:Int}(C: -9223372036854775808<=o/\o<=9223372036854775807){g c:Nat}{i:jD}
 (E:i.ownsRow base 3 1 (fD (iC (Φ g)) (j.made.length+1) c) (j.made.length+1) (j.made.map zv++[zv o]))(l:Below base w i)(n:Kept w i v.ownBlock)(m:v.ownBlock=iC g\/w.heap.size<=g):
 ∃r,Px (i.setCell (Δ jb 1) (fD (iC (Φ g)) (j.made.length+1) c)) base jb x d p L {j with made:=j.made++[o]} F (fD (iC (Φ g)) (j.made.length+1) c)/\
  (∀b,r b<->(F b\/b=jb\/(Ad (iC (Φ g)) (j.made.length+1) c).ownBlock=iC b))/\AL G r w (i.setCell (Δ jb 1) (fD (iC (Φ g)) (j.made.length+1) c)):=by
 have B:=h.box.lt;have u:g≠jb:=by
  rintro rfl;rcases m with a|a
  ·exact h.mj a
  ·omega
 have A:¬F g:=by
  intro t;rcases m with a|a
  ·exact h.mF g a t
  ·have:=h.ix.sys.lt g t;omega
 have t1:Touch (λb=>v.ownBlock=iC b) w i:=⟨l.os,l.tape,l.output,n.1,λb f q=>n.2 b f (λa=>q a.symm)⟩;have t2:Touch (λb=>b=jb\/v.ownBlock=iC b) w (i.setCell (Δ jb 1) (fD (iC (Φ g)) (j.made.length+1) c)):=(t1.mono (λb=>.inr)).setCell (p:=Δ jb 1) (.inl (.inl rfl)) _;have y:∀{b:Nat},b<base->¬(b=jb\/v.ownBlock=iC b):=by
  intro b f a;rcases a with rfl|a
  ·have:=h.bj;omega
  ·have:=(h.mlt b a).1;omega
 have H:KF (i.setCell (Δ jb 1) (fD (iC (Φ g)) (j.made.length+1) c)) d p L j.s F:=h.ix.sys.keep t2 (λb f q=>q.elim (λa=>h.fj (a▸f)) (λa=>h.mF b a f)) (y h.bt.1) (y h.bt.2);have z:CB i jb 249 [ptr0 x,v]:=(n.2 jb B (λa=>h.mj a.symm)).trans h.box;refine⟨λb=>F b\/b=jb\/(Ad (iC (Φ g)) (j.made.length+1) c).ownBlock=iC b,⟨⟨H,h.ix.box.touch t2 (λa=>a.elim h.xj h.mx),h.ix.out⟩,z.AX 1 _,?_,h.fj,h.bj,h.bx,h.bt,by simp[AV,u],?_,?_⟩,λ_=>Iff.rfl,?_⟩
 ·have:=Ff E (Kept.AX i jb 1 (fD (iC (Φ g)) (j.made.length+1) c)) (.inl (by simp[AV,Ne.symm u]));simpa using this
 ·intro b f;simp only[AV,Option.some.injEq]at f;exact f▸A
 ·intro I D;rcases AB.1 D with e|e
  ·exact h.mb I e
  ·rw[BQ]at e;exact e▸C
 ·refine⟨t2.mono (λb f=>(k b).2 (.inr f)),λb f=>?_⟩;rcases f with e|e|e
  ·exact .inl ((k b).2 (.inl e))
  ·exact .inl ((k b).2 (.inr (.inl e)))
  ·simp only[AV,Option.some.injEq]at e;rcases m with a|a
   ·exact .inl ((k b).2 (.inr (.inr (e▸a))))
   ·exact .inr (e▸a)
def AL.out{a:Nat->Prop}(m:AL G a w w'){b:Nat}(e:b<w.heap.size)(h:¬G b):¬a b:=λc=>(m.own b c).elim h (λd=>O)
end
def Yx:∀(a b:List UInt8),Op.bytesLess a b=jw->Op.bytesLess b a=jm\/a=b
 |[],[],_=>.inr rfl
 |[],_::_,h=>by simp[Op.bytesLess]at h
 |_::_,[],_=>.inl rfl
 |x::a,e::b,h=>by
  simp only[Op.bytesLess,Bool.or_eq_false_iff,decide_eq_false_iff_not,Bool.and_eq_false_iff,beq_eq_false_iff_ne]at h;obtain⟨f,g⟩:=h;simp only[Op.bytesLess,Bool.or_eq_true,decide_eq_true_eq,Bool.and_eq_true,beq_iff_eq,List.cons.injEq];by_cases d:x=e
  ·subst d;have i:=g.resolve_left (λh=>h rfl);rcases Yx a b i with c|c
   ·exact .inl (.inr ⟨rfl,c⟩)
   ·exact .inr ⟨rfl,c⟩
  ·refine .inl (.inl ?_);rw[UInt8.lt_iff_toNat_lt]at f⊢;have:x.toNat≠e.toNat:=λh=>d (UInt8.toNat_inj.1 h)
   omega
def FN:∀(a:List UInt8),Op.bytesLess a a=jw
 |[]=>rfl
 |x::a=>by simp[Op.bytesLess,FN a]
def N8:∀(a b c:List UInt8),Op.bytesLess a b=jm->Op.bytesLess b c=jm->Op.bytesLess a c=jm
 |_,[],_,h,_=>by simp[Op.bytesLess]at h
 |_,_::_,[],_,h=>by simp[Op.bytesLess]at h
 |[],_::_,_::_,_,_=>rfl
 |x::a,e::b,f::c,h,d=>by
  simp only[Op.bytesLess,Bool.or_eq_true,decide_eq_true_eq,Bool.and_eq_true,beq_iff_eq]at h d⊢;simp only[UInt8.lt_iff_toNat_lt]at h d⊢;rcases h with h|⟨rfl,h⟩
  ·rcases d with d|⟨rfl,d⟩
   ·exact .inl O
   ·exact .inl h
  ·rcases d with d|⟨rfl,d⟩
   ·exact .inl d
   ·exact .inr ⟨rfl,N8 a b c h d⟩
structure Wr where
 key:ByteArray
 text:ByteArray
 gone:Bool
def Du(x:Wr):Bool:=decide (x.key.size<=16)&&decide (x.text.size<=40)&&(!x.gone||decide (x.text.size=0))
def Gp(x:Wr)(key:ByteArray):Bool:=Op.bytesLess x.key.toList key.toList
def Gl(s:List Wr)(key:ByteArray):Nat:=s.findIdx λx=> !Gp x key
def jA(s:List Wr)(key:ByteArray):Bool:=match s[Gl s key]? with
 |some x=>x.key.toList==key.toList
 |none=>jw
def Amq(s:List Wr)(key:ByteArray):Option Wr:=if jA s key then s[Gl s key]? else iD
def WA(s:List Wr):Prop:=s.Pairwise λa b=>Gp a b.key=jm
def Ip(s:List Wr)(x:Wr):List Wr×Int:=
 if Du x=jw then(s,2)else if jA s x.key then(s.set (Gl s x.key) x,0)else if 16<=s.length then(s,3)else
 (s.take (Gl s x.key)++x::s.drop (Gl s x.key),0)
def bF(s:List Wr)(key:ByteArray):Gl s key<=s.length:=List.findIdx_le_length
def sO{s:List Wr}{key:ByteArray}{i:Nat}(hi:i<s.length)(h1:Gp s[i] key=jw)(h2:∀j(h:j<s.length),j<i->Gp s[j] key=jm):Gl s key=i/\jA s key=(s[i].key.toList==key.toList):=by
 have h:Gl s key=i:=by
  unfold Gl;rw[List.findIdx_eq hi];exact⟨by rw[h1];rfl,λj a=>by rw[h2 j O a];rfl⟩
 refine⟨h,?_⟩;unfold jA;rw[h,Ah hi]
def Air{s:List Wr}{key:ByteArray}(h2:∀j(h:j<s.length),Gp s[j] key=jm):Gl s key=s.length/\jA s key=jw:=by
 have h:Gl s key=s.length:=by
  unfold Gl;rw[List.findIdx_eq_length];intro x b;obtain⟨j,a,rfl⟩:=Dw b;rw[h2 j a];rfl
 refine⟨h,?_⟩;unfold jA;rw[h,List.getElem?_eq_none (Ae _)]
def zq{s:List Wr}{key:ByteArray}(h:jA s key=jm):Gl s key<s.length:=by
 unfold jA at h;cases a:s[Gl s key]? with
 |none=>rw[a]at h;cases h
 |some x=>exact(List.getElem?_eq_some_iff.1 a).1
def zt{s:List Wr}{key:ByteArray}(j:Nat)(h:j<s.length)(a:j<Gl s key):Gp s[j] key=jm:=by
 unfold Gl at a;have:=List.not_of_lt_findIdx a;simpa using this
def Aeo{s:List Wr}{key:ByteArray}(h:Gl s key<s.length):Gp s[Gl s key] key=jw:=by
 have a:(!Gp s[Gl s key] key)=jm:=List.findIdx_getElem (xs:=s) (p:=λx=> !Gp x key) (w:=h);cases b:Gp s[Gl s key] key with
 |false=>rfl
 |true=>rw[b]at a;cases a
def WA.lt{s:List Wr}(h:WA s){i j:Nat}(hi:i<s.length)(b:j<s.length)(a:i<j):Gp s[i] s[j].key=jm:=by
 unfold WA at h;exact iH.1 h i j hi b a
def WA.left{s:List Wr}(h:WA s){key:ByteArray}{i:Nat}(hi:i<s.length)(h1:Gp s[i] key=jm):∀j(a:j<s.length),j<i+1->Gp s[j] key=jm:=λj a c=>by
 by_cases b:j=i
 ·subst b;exact h1
 ·exact N8 _ _ _ (h.lt a hi O) h1
def WA.right{s:List Wr}(h:WA s){key:ByteArray}{i:Nat}(hi:i<s.length)(h1:Gp s[i] key=jw):∀j(a:j<s.length),i<=j->Gp s[j] key=jw:=λj a d=>by
 by_cases b:j=i
 ·subst b;exact h1
 ·cases c:Gp s[j] key with
  |false=>rfl
  |true=>rw[show Gp s[i] key=jm from N8 _ _ _ (h.lt hi a O) c]at h1;cases h1
def Amr{s:List Wr}(h:WA s)(x:Wr):WA (Ip s x).1:=by
 unfold Ip;split
 ·exact h
 ·split
  ·rename_i c;have f:=zq c;have k:s[Gl s x.key].key.toList=x.key.toList:=by
    unfold jA at c;rw[Ah f]at c;exact eq_of_beq c
   generalize Gl s x.key=b at f k;unfold WA;rw[iH];intro q j i a y;simp only[List.length_set]at i a;rw[Lc,Lc];have d:=h.lt i a y;split
   ·rename_i m;subst m;rw[ku O];unfold Gp at d⊢;rw[<-k];exact d
   ·split
    ·rename_i m u;subst u;unfold Gp at d⊢;rw[<-k];exact d
    ·exact d
  ·split
   ·exact h
   ·rename_i c C;have w:jA s x.key=jw:=by simpa using c
    obtain⟨b,l⟩:∃b,Gl s x.key=b:=⟨_,rfl⟩;have z:=bF s x.key;have p:∀j(h:j<s.length),j<b->Gp s[j] x.key=jm:=λj h a=>zt j h (l▸a)
    have A:∀j(h:j<s.length),b<=j->Op.bytesLess x.key.toList s[j].key.toList=jm:=λj a D=>by
     have f:b<s.length:=O;have n:Gp s[b] x.key=jw:=by
      have:=Aeo (s:=s) (key:=x.key) O;simpa only[l]using this
     have o:(s[b].key.toList==x.key.toList)=jw:=by
      have g:jA s x.key=_:=(sO f n p).2;rw[<-g];exact w
     have g:Op.bytesLess x.key.toList s[b].key.toList=jm:=(Yx _ _ n).resolve_right (by rw[beq_eq_false_iff_ne]at o;exact o);by_cases t:j=b
     ·subst t;exact g
     ·exact N8 _ _ _ g (h.lt f a O)
    rw[l]at z⊢;refine List.pairwise_append.2 ⟨List.Pairwise.sublist (List.take_sublist _ _) h,List.pairwise_cons.2 ⟨λr e=>?_,List.Pairwise.sublist (List.drop_sublist _ _) h⟩,λB v r e=>?_⟩
    ·obtain⟨j,a,rfl⟩:=Dw e;simp only[AQ]at a;rw[YK];exact A _ O O
    ·obtain⟨q,i,rfl⟩:=Dw v;simp only[Ed]at i;rw[List.getElem_take];rcases CG.1 e with rfl|e
     ·exact p q O O
     ·obtain⟨j,a,rfl⟩:=Dw e;simp only[AQ]at a;rw[YK];exact h.lt O O O
def Ais(s:List Wr)(x:Wr):(Ip s x).1.length<=max s.length 16:=by
 unfold Ip;split
 ·simp;omega
 ·split
  ·simp;omega
  ·split
   ·simp;omega
   ·have:=bF s x.key;simp only[AP,Ed,Bv,AQ];omega
def zu{s:List Wr}(h:∀b∈s,Du b=jm)(x:Wr):∀b∈(Ip s x).1,Du b=jm:=by
 unfold Ip;split
 ·exact h
 ·rename_i e;have d:Du x=jm:=by simpa using e
  split
  ·intro b c;rcases List.mem_or_eq_of_mem_set c with a|a
   ·exact h b a
   ·rw[a];exact d
  ·split
   ·exact h
   ·intro b c;rcases AB.1 c with a|a
    ·exact h b (List.mem_of_mem_take a)
    ·rcases CG.1 a with a|a
     ·rw[a];exact d
     ·exact h b (List.mem_of_mem_drop a)
structure Wt where
 ats:Nat->UInt64
 ops:Nat->Bool
def isOpen(t:Wt)(i:Nat):Bool:=t.ops i
def Ams(t:Wt)(i:Nat):UInt64:=t.ats i
def MS{a:Type}(f:Nat->a)(i:Nat)(x:a)(k:Nat):a:=if k=i then x else f k
def PH(t:Wt):Option Nat:=(List.range 8).find? λa=> !t.ops a
def setW(t:Wt)(i:Nat)(x:UInt64)(b:Bool):Wt:={ats:=MS t.ats i x,ops:=MS t.ops i b}
def EY(t:Wt)(id:Int):Bool:=decide (0<=id)&&(decide (id<8)&&t.ops id.toNat)
def Ug(t:Wt):List UInt64:=((List.range 8).filter (isOpen t)).map (Ams t)
def Ii(t:Wt)(d:UInt64):UInt64:=match Ug t with
 |[]=>d
 |b::c=>c.foldl (λx a=>if a.toNat<x.toNat then a else x) b
def bI:∀(l:List UInt64)(a:UInt64),(l.foldl (λx c=>if c.toNat<x.toNat then c else x) a∈a::l)/\∀c∈a::l,(l.foldl (λx c=>if c.toNat<x.toNat then c else x) a).toNat<=c.toNat
 |[],a=>by simp
 |b::l,a=>by
  have g:(if b.toNat<a.toNat then b else a)=a\/(if b.toNat<a.toNat then b else a)=b:=by split<;>simp
  have j:(if b.toNat<a.toNat then b else a).toNat<=a.toNat/\(if b.toNat<a.toNat then b else a).toNat<=b.toNat:=by split<;>omega
  rw[List.foldl_cons];obtain⟨f,e⟩:=bI l (if b.toNat<a.toNat then b else a);generalize(if b.toNat<a.toNat then b else a)=k at*;refine⟨?_,λc d=>?_⟩
  ·rcases CG.1 f with h|h
   ·rw[h];rcases g with rfl|rfl<;>simp
   ·exact Bz _ (Bz _ h)
  ·have i:=e _ (Bo ..);rcases CG.1 d with rfl|d
   ·omega
   ·rcases CG.1 d with rfl|d
    ·omega
    ·exact e c (Bz _ d)
def TB{t:Wt}{x:UInt64}:x∈Ug t<->∃a,a<8/\isOpen t a=jm/\Ams t a=x:=by
 simp only[Ug,List.mem_map,List.mem_filter,List.mem_range,and_assoc]
def Ait{t:Wt}{n x:UInt64}(h1:∃a,a<8/\isOpen t a=jm/\Ams t a=x)(h2:∀a,a<8->isOpen t a=jm->x.toNat<=(Ams t a).toNat):Ii t n=x:=by
 unfold Ii;have b:=TB.2 h1;cases h:Ug t with
 |nil=>rw[h]at b;cases b
 |cons e l=>
  obtain⟨c,f⟩:=bI l e;rw[h]at b;have g:=f x b;rw[<-h]at c;obtain⟨a,j,k,i⟩:=TB.1 c;have d:=h2 a j k;rw[i]at d;exact DN.1 (Nat.le_antisymm g d)
def zx{t:Wt}{n:UInt64}(h:∀a,a<8->isOpen t a=jw):Ii t n=n:=by
 unfold Ii;cases d:Ug t with
 |nil=>rfl
 |cons c f=>
  obtain⟨a,e,b,_⟩:=TB.1 (d▸Bo .. :c∈Ug t);rw[h a e]at b;cases b
abbrev Mk:=UInt64×Nat
structure Tb where
 wt:Wt
 sets:Nat->List Wr
 FZ:List (ByteArray×UInt64)
def FO(l:List (ByteArray×UInt64))(key:ByteArray):UInt64:=match l.find? (λp=>decide (p.1=key))with
 |some p=>p.2
 |none=>0
def OQ:List (ByteArray×UInt64)->ByteArray->UInt64->List (ByteArray×UInt64)
 |[],a,x=>[(a,x)]
 |(b,d)::c,a,x=>if b=a then(a,x)::c else(b,d)::OQ c a x
def gW(x y:UInt64):UInt64:=if x.toNat<y.toNat then y else x
def sQ(l:List (ByteArray×UInt64))(s:List Wr)(x:UInt64):List (ByteArray×UInt64):=s.foldl (λl w=>OQ l w.key (gW (FO l w.key) x)) l
def KJ(l:List (ByteArray×UInt64))(s:List Wr)(x:UInt64):Bool:=s.any λw=>decide (x.toNat<(FO l w.key).toNat)
def nO(a b:ByteArray):(a==b)=decide (a=b):=by
 cases a with|mk x=>cases b with|mk c=>
 have h:((⟨x⟩:ByteArray)==⟨c⟩)=(x==c):=rfl;rw[h,Bool.eq_iff_iff,beq_iff_eq,decide_eq_true_eq,ByteArray.mk.injEq]
def PW:Nat->List (ByteArray×UInt64)->List MapEntry
 |_,[]=>[]
 |a,(b,v)::t=>{key:=fQ b,val:=fP ig (v.toNat:Int),born:=a}::PW (a+1) t
def sS(o:ByteArray)(v:UInt64):∀(l:List (ByteArray×UInt64))(i:Nat),PW i (l++[(o,v)])=PW i l++[{key:=fQ o,val:=fP ig (v.toNat:Int),born:=i+l.length}]
 |[],i=>rfl
 |(a,b)::t,i=>by
  simp only[BD,PW,sS o v t (i+1),Bv];rw[show i+1+t.length=i+(t.length+1)by omega]
def Vy(k:ByteArray):∀(l:List (ByteArray×UInt64))(i n:Nat),(∀p∈l,p.1≠k)->Instr.findNow .string (fQ k) (PW i l) n=iC iD
 |[],_,_,_=>rfl
 |(a,b)::t,i,n,h=>by
  have d:(k==a)=jw:=by rw[nO];exact decide_eq_false (λc=>h (a,b) (Bo ..) c.symm)
  simp only[PW,Instr.findNow,Instr.sameNow,d];exact Vy k t (i+1) (n+1) (λp e=>h p (Bz _ e))
def TC(k:ByteArray)(v:UInt64)(d:List (ByteArray×UInt64)):∀(b:List (ByteArray×UInt64))(i n:Nat),(∀p∈b,p.1≠k)->Instr.findNow .string (fQ k) (PW i (b++(k,v)::d)) n=iC (iC (n+b.length,fP ig (v.toNat:Int)))
 |[],_,_,_=>by
  have a:(k==k)=jm:=by rw[nO];exact decide_eq_true rfl
  simp[PW,Instr.findNow,Instr.sameNow,a]
 |(c,e)::t,i,n,h=>by
  have a:(k==c)=jw:=by rw[nO];exact decide_eq_false (λf=>h (c,e) (Bo ..) f.symm)
  simp only[BD,PW,Instr.findNow,Instr.sameNow,a];rw[TC k v d t (i+1) (n+1) (λp g=>h p (Bz _ g))];simp only[Bv];rw[show n+1+t.length=n+(t.length+1)by omega]
def sU(k:ByteArray)(v c:UInt64)(b:List (ByteArray×UInt64)):∀(a:List (ByteArray×UInt64))(i:Nat),(PW i (a++(k,v)::b)).modify a.length (λd=>{d with key:=fQ k,val:=fP ig (c.toNat:Int)})=PW i (a++(k,c)::b)
 |[],i=>rfl
 |(e,f)::t,i=>by
  simp only[BD,PW,Bv,List.modify_succ_cons];rw[sU k v c b t (i+1)]
def PX(w:jD)(a:Nat)(l:List (ByteArray×UInt64)):Prop:=w.heap[a]?=iC (.map (PW 0 l).toArray l.length)
def PX.lt{w:jD}{a:Nat}{l:List (ByteArray×UInt64)}(h:PX w a l):a<w.heap.size:=(AA.1 h).1
def PX.below{w w':jD}{a:Nat}{l:List (ByteArray×UInt64)}(h:PX w a l)(k:η w w'):PX w' a l:=(k.block _ h.lt).trans h
def TD:∀(l:List (ByteArray×UInt64))(k:ByteArray),(∀p∈l,p.1≠k)\/∃b v d,l=b++(k,v)::d/\∀p∈b,p.1≠k
 |[],_=>.inl (λ_ h=>nomatch h)
 |(e,f)::t,k=>by
  by_cases c:e=k
  ·subst c;exact .inr ⟨[],f,t,rfl,λ_ h=>nomatch h⟩
  ·rcases TD t k with h|⟨b,v,d,rfl,h⟩
   ·refine .inl λp a=>?_
    rcases CG.1 a with rfl|a
    ·exact c
    ·exact h p a
   ·refine .inr ⟨(e,f)::b,v,d,rfl,λp a=>?_⟩;rcases CG.1 a with rfl|a
    ·exact c
    ·exact h p a
def Aiu{l:List (ByteArray×UInt64)}{k:ByteArray}(h:∀p∈l,p.1≠k):FO l k=0:=by
 unfold FO;rw[Xk.2 (λp a=>by simpa using h p a)]
def Aep{a c:List (ByteArray×UInt64)}{k:ByteArray}{v:UInt64}(h:∀p∈a,p.1≠k):FO (a++(k,v)::c) k=v:=by
 unfold FO;rw[List.find?_append,Xk.2 (λp b=>by simpa using h p b)];simp
def sV:∀{l:List (ByteArray×UInt64)}{k:ByteArray}(x:UInt64),(∀p∈l,p.1≠k)->OQ l k x=l++[(k,x)]
 |[],_,_,_=>rfl
 |(a,b)::t,k,x,h=>by
  rw[OQ,ku (h (a,b) (Bo ..)),sV x (λp c=>h p (Bz _ c))];rfl
def jB:∀{a b:List (ByteArray×UInt64)}{k:ByteArray}{v:UInt64}(x:UInt64),(∀p∈a,p.1≠k)->OQ (a++(k,v)::b) k x=a++(k,x)::b
 |[],_,k,v,x,_=>by rw[EK,OQ,jM rfl];rfl
 |(c,d)::t,b,k,v,x,h=>by
  rw[BD,OQ,ku (h (c,d) (Bo ..)),jB x (λp e=>h p (Bz _ e))];rfl
section
variable{P:Program}{t kt et:TypeId}
def Qz(a:P.underlying kt=iC .string)(b:Bool)(n:Nat)(k:ByteArray)(w:jD):(Instr.checkKey b (n+1) kt (fQ k)).run P w=.ok () w:=by
 simp[Instr.checkKey,run_underlying a,Result.andThen]
def Acd(n:P.underlying t=iC (.map kt et))(i:P.underlying kt=iC .string)(o:∀a,(zeroValue et).run P a=.ok (fP ig 0) a)(a:jD)(j:Nat)(l:List (ByteArray×UInt64))(k:ByteArray)(h:PX a j l):
 (Instr.lookup t (.map (iC j)) (fQ k) jw).run P a=.ok (fP ig ((FO l k).toNat:Int)) a:=by
 have d:=run_underlying (P:=P) n;have e:=run_underlying (P:=P) i;have f:=λm w=>Qz (P:=P) i m 9999 k w
 have g:=ML (P:=P) h;rcases TD l k with b|⟨p,v,q,rfl,b⟩
 ·have c:=Vy k l 0 0 b;rw[Aiu b];simp[Instr.lookup,d,e,f,g,Instr.findKey,c,o,Result.andThen]
 ·have c:=TC k v q p 0 0 b;rw[Aep b];simp[Instr.lookup,d,e,f,g,Instr.findKey,c,Result.andThen]
def Aqa(C:P.underlying t=iC (.map kt et))(q:P.underlying kt=iC .string)(c:jD)(f:Nat)(l:List (ByteArray×UInt64))(k:ByteArray)(x:UInt64)(h:PX c f l):
 (Instr.mapUpdate t (.map (iC f)) (fQ k) (fP ig (x.toNat:Int))).run P c=.ok () (Eu c f (PW 0 (OQ l k x)).toArray (OQ l k x).length):=by
 have g:=run_underlying (P:=P) C;have j:=run_underlying (P:=P) q;have m:=λw=>Qz (P:=P) q jw 9999 k w
 have n:=ML (P:=P) h;have o:=λE=>Vm (P:=P) E h
 rcases TD l k with d|⟨a,v,b,rfl,d⟩
 ·have e:=Vy k l 0 0 d;rw[sV x d,sS];simp[Instr.mapUpdate,g,j,m,n,o,Instr.findKey,e,Eu,Result.andThen]
 ·have e:=TC k v b a 0 0 d;have B:=sU k v x b a 0;rw[jB x d];have y:(((PW 0 (a++(k,v)::b)).toArray[a.length]?).map (·.key)).getD (fQ k)=fQ k:=by
   have:∀(a:List (ByteArray×UInt64))(i:Nat),(((PW i (a++(k,v)::b))[a.length]?).map (·.key)).getD (fQ k)=fQ k:=by
    intro a;induction a with
    |nil=>intro i;rfl
    |cons p t D=>intro i;obtain⟨F,G⟩:=p;simpa[PW]using D (i+1)
   simpa using this a 0
  have z:∀c,(Instr.keyThatStays (fQ k) (fQ k)).run P c=.ok (fQ k) c:=λc=>by
   have u:Instr.sameBits 10000 (fQ k) (fQ k)=jm:=by
    show Instr.sameBits (9999+1) _ _=jm;simp[Instr.sameBits,nO]
   simp[Instr.keyThatStays,u]
  have A:(a++(k,x)::b).length=(a++(k,v)::b).length:=by simp
  have s:(PW 0 (a++(k,v)::b)).toArray.modify a.length (λr=>{r with key:=fQ k,val:=fP ig (x.toNat:Int)})=(PW 0 (a++(k,x)::b)).toArray:=by
   rw[<-B];simp
  rw[A];simp only[Nat.zero_add]at e;simp only[Instr.mapUpdate,Sem.run_bind,g,Result.andThen_ok,n,m,Instr.findKey,j,e,Sem.run_pure,y,z,o,s,Eu]
end
