import Derived.Deep.RegionHeldLaw
import Derived.Test.YtfmkofmaabgbkaaGreatDoorJ11
import Derived.Test.YtfmkofmaabgbkaaGreatDoorJ13
set_option linter.defProp false
set_option maxHeartbeats 32000000
set_option maxRecDepth 100000
open Go.Lib renaming hid->Ac
open List renaming getElem_mem->Cm,drop_eq_getElem_cons->Cf,drop_of_length_le->DR,getElem?_cons_zero->Ag
open Nat renaming zero_le->BA,not_lt_zero->lF
open Go.Value renaming slice->fD,int->fP,string->fQ,bool->fU,tuple->gJ
open Go.Ending renaming returned->gY
open Go.IntKind renaming i64->gZ
open Bool renaming false->jw
namespace Go.Proofs.YtfmkofmaabgbkaaGreatDoor
open Go.RowKit
open Go.Proofs.Tryz
def Fh:Ms->List Lk->Ms×Int
 |q,[]=>(q,0)
 |q,a::b=>if(Dz q a.off).2=0 then Fh (Dz q a.off).1 b else Dz q a.off
def N9(q:Ms)(l:List Lk)(b:Nat):Ms×Int:=
 if b=l.length then(q,0)else
 match l[b-1]? with
 |some a=>if(JE q 3 (Dt q.s.ws (a.off.toNat/8+2) 0)).2=0 then Fh (JE q 3 (Dt q.s.ws (a.off.toNat/8+2) 0)).1 (l.drop b)else JE q 3 (Dt q.s.ws (a.off.toNat/8+2) 0)
 |none=>(q,2)
section
variable{w w':World}{d p L:Nat}{q:Ms}{F:Nat->Prop}
def Ae5(h:KF w d p L q F){l:List Lk}{A:Option Addr}{c:Nat}(z:KT w F A (l.length*5) (gX l))(bh:l.length<=c)(aX:l.length<=100000)(y:∀b∈l,∃e:Nat,b.off=((8*e:Nat):Int)/\e+8<=8*L/\e<=10000)(a:Nat)(v:a<l.length):
 Calls prog 95 #[ptr0 d,ptr0 p,fD A l.length c,fP gZ ((a:Int)+1)] w λg w'=>g=gY (fP gZ (N9 q l (a+1)).2)/\∃F',KF w' d p L (N9 q l (a+1)).1 F'/\AL F F' w w':=by
 have T:=Ac (X7 h);have t1:decide ((a:Int)+1<1)=jw:=decide_eq_false O1;have t3:decide ((l.length:Int)<(a:Int)+1)=jw:=decide_eq_false O1;by_cases x:a+1=l.length
 ·have t4:((a:Int)+1==(l.length:Int))=true:=beq_iff_eq.2 O1;have g:N9 q l (a+1)=(q,0):=by unfold N9;rw[jM x]
  have aJ:=Ac h;rw[g];clear h z y g x;go_enter func95,ntmps95
  go_wp2_with fail
  refine T.mono ?_;rintro g a8⟨rfl,rfl⟩
  go_wp2_with fail
  go_ret;exact⟨rfl,F,aJ.out,AL.refl _ _⟩
 ·have t4:((a:Int)+1==(l.length:Int))=jw:=beq_eq_false_iff_ne.2 O1;obtain⟨bc,ab,rfl,bg,o,-⟩:=LkR.at z.1 a v;obtain⟨e,k,K,M⟩:=y _ (Cm v);have bk:IntKind.i64.wrap ((a:Int)+1-1)=(a:Int):=by rw[show(a:Int)+1-1=(a:Int)by omega];exact IntWalk.i64_in _ O1
  obtain⟨t,ah⟩:∃t:Int,t=((8*e:Nat):Int):=⟨_,rfl⟩;obtain⟨u,G⟩:∃u:Int,u=((8*(e+2):Nat):Int):=⟨_,rfl⟩;have bl:IntKind.i64.wrap (t+16)=u:=by rw[show t+16=u by omega,G];exact IntWalk.i64_in _ O1
  have aq:l[a].off.toNat/8+2=e+2:=by rw[k];simp;omega
  have i:Hid (N9 q l (a+1)=if(JE q 3 (Dt q.s.ws (e+2) 0)).2=0 then Fh (JE q 3 (Dt q.s.ws (e+2) 0)).1 (l.drop (a+1))else JE q 3 (Dt q.s.ws (e+2) 0)):=Ac (by
   unfold N9;rw[ku x,show a+1-1=a by omega,List.getElem?_eq_getElem v];simp only[aq])
  have m:=Ac (Qw h (e+2) 0 O1);rw[show((0:UInt64).toNat:Int)=0 by rfl,<-G]at m;obtain⟨⟨aF,ac⟩,n⟩:∃D,JE q 3 (Dt q.s.ws (e+2) 0)=D:=⟨_,rfl⟩;rw[n]at i m;simp only at i m;rw[k,<-ah]at o;have aR:=Ac z;have t5:(a:Int)<(l.length:Int):=O1;have aM:=Ac y;have bj:a+1<l.length:=O1;have aL:=Ac aX;have bi:¬c=a+1:=O1;clear h z y n k K M aq x ah G;go_enter func95,ntmps95
  go_wp2_with fail
  refine T.mono ?_;rintro g a8⟨rfl,rfl⟩
  go_wp2_with fail
  refine m.mono ?_;rintro g bp⟨rfl,R,B,ap⟩;have W:=Ac B;have aa:=Ac ap;clear B ap m o;by_cases H:ac=0
  ·subst H;rw[jM rfl]at i
   go_wp2_with fail
   go_loopw [44](λN wr=>∃(b:Nat)(f:Ms)(F':Nat->Prop),b<=l.length-(a+1)/\N=fP gZ (b:Nat)/\Fh aF (l.drop (a+1))=Fh f (l.drop (a+1+b))/\KF wr d p L f F'/\AL F F' w wr)(λN _=>l.length-(intOf N).toNat)
   case atStart=>exact⟨0,aF,R,BA _,rfl,rfl,W.out,aa.out⟩
   case round=>
    obtain⟨b,f,F',v,rfl,am,ar,ao⟩:=hrel;have Q:=Ac am;have V:=Ac ar;have C:=Ac ao;clear am ar ao;have bm:=wk1 b (Ω aL.out);by_cases an:b<l.length-(a+1)
    ·have J:a+1+b<l.length:=O1;obtain⟨bd,be,E,a9,o,aw,az,aD,aE⟩:=LkR.at (aR.moved C.out).1 (a+1+b) J;injection E with E
     injection E with aV aW
     subst aV aW;rw[show ab+(a+1+b)*5=ab+(a+1)*5+b*5 by omega]at o aw az aD aE;obtain⟨e,k,K,M⟩:=aM _ (Cm J);have j:Hid (Fh f (l.drop (a+1+b))=if(Dz f l[a+1+b].off).2=0 then Fh (Dz f l[a+1+b].off).1 (l.drop (a+1+(b+1)))else Dz f l[a+1+b].off):=Ac (by
      rw[Cf J,Fh];rfl)
     generalize l[a+1+b]=a2 at*;obtain⟨P,a5,a1,a0,a3⟩:=a2;simp only at o aw az aD aE j k;obtain⟨bb,ae,al,ba⟩:=newB wr 200 [fP gZ P,fP .u64 (a5.toNat:Int),fP .u64 (a1.toNat:Int),fU a0,fQ a3];have r:=Ac (KG (V.below al) P O1);obtain⟨⟨a4,ad⟩,n⟩:∃D,Dz f P=D:=⟨_,rfl⟩;rw[n]at j r;simp only at j r;have U:=Ac ae;have aZ:decide ((b:Int)<((l.length-(a+1):Nat):Int))=true:=decide_eq_true O1;have B:decide (b<l.length-(a+1))=true:=decide_eq_true an;have bo:(b:Int)<((l.length-(a+1):Nat):Int):=O1;clear ae al n k K M
     go_wp2_with fail
     rw[<-U.out];refine r.mono ?_;rintro g bq⟨rfl,S,av,Y⟩;have X:=Ac av;have Z:=Ac ((C.trans (AL.of_below (by rw[U.out];exact(Below.refl _ _).alloc (Nat.le_refl _) _))).trans Y);clear av Y r;by_cases I:ad=0
     ·subst I;rw[jM rfl]at j
      go_wp2_with fail
      go_roundw
      case rel=>exact⟨b+1,a4,S,O1,by go_num,by rw[Q.out,j.out],X.out,Z.out⟩
      case measure=>simp[intOf];omega
     ·have a6:(ad==0)=jw:=beq_eq_false_iff_ne.2 I;rw[ku I]at j
      go_wp2_with fail
      go_ret;rw[i.out,Q.out,j.out];exact⟨rfl,S,X.out,Z.out⟩
    ·have aZ:decide ((b:Int)<((l.length-(a+1):Nat):Int))=jw:=decide_eq_false O1;have B:decide (b<l.length-(a+1))=jw:=decide_eq_false an;have a7:Hid (Fh f (l.drop (a+1+b))=(f,0)):=Ac (by rw[DR O1];rfl)
     go_wp2_with fail
     go_ret;rw[i.out,Q.out,a7.out];exact⟨rfl,F',V.out,C.out⟩
  ·have a6:(ac==0)=jw:=beq_eq_false_iff_ne.2 H;rw[ku H]at i
   go_wp2_with fail
   go_ret;rw[i.out];exact⟨rfl,R,W.out,aa.out⟩
end
def TF(F:Nat->Prop)(bk a:Nat)(k:Nat):Prop:=F k\/k=bk\/k=a
structure Ht(w:World)(F:Nat->Prop)(tt bk:Nat)(b:Bk)(t:Tb):Prop where
 box:CB w tt 165 [ptr0 bk]
 book:DF w bk b
 map:PX w b.nt t.FZ
 wt:b.wt=t.wt
 sets:∀i,i<8->FI w (TF F bk b.nt) (b.st i) (t.sets i)
 pile:UQ b
 fb:¬F bk
 fn:¬F b.nt
 ft:¬F tt
 ne1:tt≠bk
 ne2:tt≠b.nt
 ne3:bk≠b.nt
section
variable{w w':World}{F F':Nat->Prop}{tt bk:Nat}{b:Bk}{t:Tb}
def Ht.moved(h:Ht w F tt bk b t)(m:AL F F' w w'):Ht w' F' tt bk b t:=by
 have e:AL (TF F bk b.nt) (TF F' bk b.nt) w w':=⟨m.touch.mono (λc a=>.inl a),λc a=>by
  rcases a with a|a
  ·exact(m.own c a).imp .inl id
  ·exact .inl (.inr a)⟩
 exact⟨h.box.touch m.touch h.ft,h.book.touch m.touch h.fb,(m.touch.block _ h.map.lt h.fn).trans h.map,h.wt,λi d=>(h.sets i d).moved e,h.pile,
  m.out h.book.lt h.fb,m.out h.map.lt h.fn,m.out h.box.lt h.ft,h.ne1,h.ne2,h.ne3⟩
def Ht.below(h:Ht w F tt bk b t)(k:η w w'):Ht w' F tt bk b t:=h.moved (AL.of_below k)
def Ht.turn(h:Ht w F tt bk b t){a:Bk}{d:Tb}(k:Touch (λk=>k=bk) w w')(f:DF w' bk a)(c:a.nt=b.nt)(m:a.wt=d.wt)(g:d.FZ=t.FZ)(j:UQ a)
 (l:∀i,i<8->FI w' (TF F bk b.nt) (a.st i) (d.sets i)):Ht w' F tt bk a d:=
 ⟨h.box.touch k h.ne1,f,by rw[c,g];exact(k.block _ h.map.lt (λe=>h.ne3 e.symm)).trans h.map,m,by rw[c];exact l,j,h.fb,by rw[c];exact h.fn,h.ft,h.ne1,by rw[c];exact h.ne2,by rw[c];exact h.ne3⟩
def Ht.Uk(h:Ht w F tt bk b t)(k:Touch (λk=>k=bk) w w'):∀i,i<8->FI w' (TF F bk b.nt) (b.st i) (t.sets i):=λi c=>
 (h.sets i c).moved ⟨k.mono (λ_ a=>.inr (.inl a)),λ_ d=>.inl d⟩
def PK(h:Ht w F tt bk b t):Calls prog 78 #[ptr0 tt] w λa w'=>a=gY (fU jw)/\w=w':=by
 have c:=h.box.p1;clear h;go_enter func78,ntmps78;go_wp2;go_ret;exact⟨rfl,rfl⟩
def uo(h:Ht w F tt bk b t)(id:Int):Calls prog 46 #[ptr0 tt,fP gZ id] w λc w'=>c=gY (atV t.wt id)/\w=w':=by
 have j:=h.box.p1;have g:=Ac (PK h);have a:=Ac (nP h.book id);rw[h.wt]at a;obtain⟨e,f,d⟩:∃e f,atV t.wt id=gJ #[e,f]:=by
  unfold atV;split
  ·exact⟨_,_,rfl⟩
  ·exact⟨_,_,rfl⟩
 rw[d]at a⊢;clear h d;go_enter func46,ntmps46
 go_wp2_with fail
 refine g.mono ?_;rintro c i⟨rfl,rfl⟩
 go_wp2_with fail
 refine a.mono ?_;rintro c i⟨rfl,rfl⟩
 go_wp2_with fail
 go_ret2;exact⟨rfl,rfl⟩
def nS(t:Tb)(i:Nat)(x:UInt64):Tb:={t with wt:=setW t.wt i x true,sets:=MS t.sets i []}
def Oh(t:Tb)(i:Nat):Tb:={t with wt:=setW t.wt i 0 jw,sets:=MS t.sets i []}
def ik(h:Ht w F tt bk b t)(c:PH t.wt=none)(x:Int):
 Calls prog 40 #[ptr0 tt,fP .u64 x] w λa w'=>a=gY (gJ #[fP gZ 0,fP gZ 6])/\w=w':=by
 have g:=h.box.p1;have e:=Ac (PK h);have d:=Ac (bQ h.book (by rw[h.wt];exact c) x);clear h c;go_enter func40,ntmps40
 go_wp2_with fail
 refine e.mono ?_;rintro a f⟨rfl,rfl⟩
 go_wp2_with fail
 refine d.mono ?_;rintro a f⟨rfl,rfl⟩
 go_wp2_with fail
 go_ret2;exact⟨rfl,rfl⟩
def Ajc(h:Ht w F tt bk b t){i:Nat}(l:PH t.wt=some i)(x:UInt64):
 Calls prog 40 #[ptr0 tt,fP .u64 (x.toNat:Int)] w λc w'=>c=gY (gJ #[fP gZ (i:Int),fP gZ 0])/\
  ∃j,(b.many<16->j.many=b.many+1)/\j.nt=b.nt/\j.st i=fD none 0 0/\Ht w' F tt bk j (nS t i x)/\Touch (λe=>e=bk) w w':=by
 have r:=h.box.p1;have u:=(bP l).1;have B:(i:Int)<8:=O1;have q:=Ac (PK h);have o:=Ac (Aer h.book h.pile (by rw[h.wt];exact l) x);have f:=Ac h;clear h l;go_enter func40,ntmps40
 go_wp2_with fail
 refine q.mono ?_;rintro c v⟨rfl,rfl⟩
 go_wp2_with fail
 refine o.mono ?_;rintro c v⟨rfl,g,s,k,m⟩;clear r;have r:=(f.box.touch m f.ne1).p1;have C:=k.cellSt i u;have D:=k.frozen (49+i);have y:=Ac k;have a:=Ac s;have z:=Ac m;clear o q k s m
 go_wp2_with fail
 go_ret2;have n:Touch (λe=>e=bk) w (v.setCell (Δ bk (49+i)) (fD none 0 0)):=z.setCell (p:=Δ bk (49+i)) (.inl rfl) _;refine⟨rfl,{g with st:=λe=>if e=i then fD none 0 0 else g.st e},a.many,a.nt,jM rfl,f.turn n (y.setSt i u _) a.nt ?_ rfl ⟨a.pile.heap,a.pile.ids,a.pile.has,a.pile.len⟩ ?_,n⟩
 ·show({ats:=g.ats,ops:=g.ops}:Wt)={ats:=MS t.wt.ats i x,ops:=MS t.wt.ops i true};rw[a.ats,a.ops,<-f.wt];rfl
 ·intro d A;show FI _ _ (if d=i then _ else g.st d) (if d=i then[]else t.sets d);by_cases c:d=i
  ·rw[jM c,jM c];exact FI.nil
  ·rw[ku c,ku c,a.st];exact f.Uk n d A
def zX(h:Ht w F tt bk b t){i:Nat}(hi:i<8)(l:t.wt.ops i=true):
 Calls prog 52 #[ptr0 tt,fP gZ (i:Int)] w λc w'=>c=gY (fP gZ 0)/\
  ∃k,k.many=b.many/\k.nt=b.nt/\Ht w' F tt bk k (Oh t i)/\Touch (λe=>e=bk) w w':=by
 have r:=h.box.p1;have z:(i:Int)<8:=O1;have q:=Ac (PK h);have o:=Ac (zD h.book h.pile hi (by have:=h.wt;unfold Bk.wt at this;rw[<-this]at l;exact l));have f:=Ac h;clear h l;go_enter func52,ntmps52
 go_wp2_with fail
 refine q.mono ?_;rintro c u⟨rfl,rfl⟩
 go_wp2_with fail
 refine o.mono ?_;rintro c u⟨rfl,g,s,j,m⟩;clear r;have r:=(f.box.touch m f.ne1).p1;have A:=j.cellSt i hi;have B:=j.frozen (49+i);have v:=Ac j;have a:=Ac s;have x:=Ac m;clear o q j s m
 go_wp2_with fail
 go_ret;have n:Touch (λe=>e=bk) w (u.setCell (Δ bk (49+i)) (fD none 0 0)):=x.setCell (p:=Δ bk (49+i)) (.inl rfl) _;refine⟨rfl,{g with st:=λe=>if e=i then fD none 0 0 else g.st e},a.many,a.nt,f.turn n (v.setSt i hi _) a.nt ?_ rfl ⟨a.pile.heap,a.pile.ids,a.pile.has,a.pile.len⟩ ?_,n⟩
 ·show({ats:=g.ats,ops:=g.ops}:Wt)={ats:=MS t.wt.ats i 0,ops:=MS t.wt.ops i jw};rw[a.ats,a.ops,<-f.wt];rfl
 ·intro d y;show FI _ _ (if d=i then _ else g.st d) (if d=i then[]else t.sets d);by_cases c:d=i
  ·rw[jM c,jM c];exact FI.nil
  ·rw[ku c,ku c,a.st];exact f.Uk n d y
def Ajd(h:Ht w F tt bk b t)(x:UInt64):
 Calls prog 57 #[ptr0 tt,fP .u64 (x.toNat:Int)] w λe w'=>e=gY (fP .u64 ((Ii t.wt x).toNat:Int))/\
  ∃d,d.many<=b.many/\d.nt=b.nt/\Ht w' F tt bk d t/\Touch (λn=>n=bk) w w':=by
 have p:=h.box.p1;have i:=Ac (PK h);have g:=Ac (zG h.book h.pile x);rw[h.wt]at g;have c:=Ac h;clear h;go_enter func57,ntmps57
 go_wp2_with fail
 refine i.mono ?_;rintro e o⟨rfl,rfl⟩
 go_wp2_with fail
 refine g.mono ?_;rintro e o⟨rfl,j,a,k,f⟩
 go_wp2_with fail
 go_ret;refine⟨rfl,j,a.many,a.nt,c.turn f k a.nt ?_ rfl a.pile ?_,f⟩
 ·rw[<-c.wt];unfold Bk.wt;rw[a.ats,a.ops]
 ·intro m l;rw[a.st];exact c.Uk f m l
end
section
variable{w w':World}{F F':Nat->Prop}{tt bk:Nat}{b:Bk}{t:Tb}
def QD{t:Wt}{i:Nat}(hi:i<8)(a:t.ops i=true):atV t (i:Int)=gJ #[fP .u64 ((t.ats i).toNat:Int),fU true]:=by
 unfold atV;rw[jM,Int.toNat_natCast];unfold EY;simp only[Bool.and_eq_true,decide_eq_true_eq];exact⟨O1,O1,a⟩
def nT(h:Ht w F tt bk b t){i:Nat}(hi:i<8)(o:t.wt.ops i=true)(g:(t.sets i).length<=100000):
 Calls prog 43 #[ptr0 tt,fP gZ (i:Int)] w λc w'=>∃a,c=gY (gJ #[a,fU true])/\
  w'.ownsRow w.heap.size 100 3 a (t.sets i).length (Gf (t.sets i))/\η w w':=by
 have m:=h.box.p1;have q:(i:Int)<8:=O1;have n:=h.book.cellSt i hi;have d:=Ac (uo h (i:Int));rw[QD hi o]at d;have k:=Ac (Oy (h.sets i hi) g);clear h g;go_enter func43,ntmps43
 go_wp2_with fail
 refine d.mono ?_;rintro c p⟨rfl,rfl⟩
 go_wp2_with fail
 refine k.mono ?_;rintro c p⟨a,rfl,f,e⟩;have l:=Ac f;have j:=Ac e;clear f e n m
 go_wp2_with fail
 go_ret2;exact⟨a,rfl,l.out,j.out⟩
def writeT(t:Tb)(i:Nat)(s:List Wr):Tb:={t with sets:=MS t.sets i s}
def Aje(h:Ht w F tt bk b t)(R:∀a,F a->a<w.heap.size){i:Nat}(hi:i<8)(aa:t.wt.ops i=true)(x:Wr)(s:List Wr)
 (N:∀e,η w e->Calls prog 125 #[b.st i,OU x] e λc w'=>∃H,c=gY (gJ #[H,fP gZ 0])/\w'.ownsRow e.heap.size 100 3 H s.length (Gf s)/\η e w'):
 Calls prog 80 #[ptr0 tt,fP gZ (i:Int),OU x] w λc w'=>c=gY (fP gZ 0)/\
  ∃y,y.many=b.many/\y.nt=b.nt/\Ht w' F tt bk y (writeT t i s)/\Touch (λa=>a=bk) w w':=by
 obtain⟨e,D,E,L⟩:=newB w 100 [fQ x.key,fQ x.text,fU x.gone];have f:Ht e F tt bk b t:=h.below E;obtain⟨I,J,K⟩:=L.p3;have M:=Ac (PK f);have r:=Ac (nP f.book (i:Int));rw[f.wt,QD hi aa]at r;have z:=f.box.p1;have n:=f.book.cellSt i hi;have ae:(i:Int)<8:=O1;have u:=Ac h;have V:Hid (∀a,F a->w.heap.size<=a->False):=Ac (λa m an=>absurd (R a m) O1);have k:=Ac E;have T:=Ac D;have v:=Ac N;obtain⟨Q,ac⟩:∃Q,b.st i=Q:=⟨_,rfl⟩;rw[ac]at v n;rw[D]at I J K z n;unfold OU at v⊢;clear h f E D N L R;go_enter func80,ntmps80
 go_wp2_with fail
 rw[<-T.out]at I J K z n⊢;refine M.mono ?_;rintro c ad⟨rfl,rfl⟩
 go_wp2_with fail
 refine r.mono ?_;rintro c ad⟨rfl,rfl⟩
 go_wp2_with fail
 go_region_with(go_at_call 125;refine(v _ (by first|exact k.out|exact τ k.out ((Dr.drew _).below _))).mono ?_;rintro c j⟨H,rfl,C,B⟩;obtain⟨q,A,ab,_,_⟩:=own_rowk C;subst ab)
 all_goals(
  have G:η w j:=by
   first
   |exact τ k.out B
   |exact τ k.out (((Dr.drew _).below _).trans B)
  have P:FI j (TF F bk b.nt) (fD q s.length A) s:=WH C rfl (λa m _ W=>by
   have Z:w.heap.size<=a:=Nat.le_trans k.size m;rcases W with X|rfl|rfl
   ·exact V a X Z
   ·exact absurd u.book.lt O1
   ·exact absurd u.map.lt O1)
  have l:Ht j F tt bk b t:=u.below G;have ah:=l.box.p1;have al:=l.book.cellSt i hi;have am:=l.book.frozen (49+i);have d:=Ac l;have U:=Ac G;have S:=Ac P;clear l G P C B I J K z n M r
  go_wp2_with fail
  go_ret;have o:Touch (λa=>a=bk) j (j.setCell (Δ bk (49+i)) (fD q s.length A)):=(Touch.refl (λa=>a=bk) j).setCell (p:=Δ bk (49+i)) (.inl rfl) _;refine⟨rfl,{b with st:=λa=>if a=i then(fD q s.length A)else b.st a},rfl,rfl,d.turn o (d.book.setSt i hi _) rfl d.wt rfl ⟨d.pile.heap,d.pile.ids,d.pile.has,d.pile.len⟩ ?_,(Touch.of_below U.out).trans o (λ_ c=>.inl c)⟩;intro g Y;show FI _ _ (if g=i then _ else b.st g) (if g=i then s else t.sets g);by_cases c:g=i
  ·rw[jM c,jM c];exact S.moved ⟨o.mono (λ_ c=>.inr (.inl c)),λ_ m=>.inl m⟩
  ·rw[ku c,ku c];exact d.Uk o g Y)
end
def Ajf(a:World):(zeroValue 40).run prog a=.ok (fP .u64 0) a:=by kernel_rfl
section
variable{w w':World}{F F':Nat->Prop}{tt bk:Nat}{b:Bk}{t:Tb}
def uq(h:Ht w F tt bk b t){i:Nat}(hi:i<8)(M:t.wt.ops i=true)(N:(t.sets i).length<=100000):
 Calls prog 53 #[ptr0 tt,fP gZ (i:Int)] w λA w'=>A=gY (fU (KJ t.FZ (t.sets i) (t.wt.ats i)))/\η w w':=by
 have z:=h.box.p1;have ab:(i:Int)<8:=O1;have p:=h.book.cellSt i hi;have n:=Ac (uo h (i:Int));rw[QD hi M]at n;obtain⟨Z,ac,r⟩:=(h.sets i hi).slice;rw[r]at p;have o:=Ac (h.sets i hi);rw[r]at o;have K:=Ac h;obtain⟨a,G⟩:∃a,t.sets i=a:=⟨_,rfl⟩;rw[G]at N o p⊢;obtain⟨e,I⟩:∃e,t.wt.ats i=e:=⟨_,rfl⟩;rw[I]at n⊢;clear h G I r;go_enter func53,ntmps53
 go_wp2_with fail
 refine n.mono ?_;rintro A av⟨rfl,rfl⟩
 go_wp2_with fail
 go_loopw [27](λi wr=>∃c:Nat,c<=a.length/\i=fP gZ (c:Nat)/\KJ t.FZ a e=KJ t.FZ (a.drop c) e/\η w wr)(λi _=>a.length-(intOf i).toNat)
 case atStart=>exact⟨0,BA _,rfl,rfl,Below.refl _ _⟩
 case round=>
  obtain⟨c,am,rfl,D,C⟩:=hrel;have k:=Ac D;have j:=Ac C;clear D C z p;have v:=Ac (K.below j.out);have z:=v.box.p1;by_cases m:c<a.length
  ·obtain⟨aa,ar,ad,H,al,ah,an,T,U,V⟩:=(o.below j.out).at c m;simp only[Value.slice.injEq]at H;obtain⟨rfl,-,rfl⟩:=H;obtain⟨ap,Q,R⟩:=ltT m;have ao:=wk1 c O1;have f:Hid (KJ t.FZ a e=(decide (e.toNat<(FO t.FZ a[c].key).toNat)||KJ t.FZ (a.drop (c+1)) e)):=Ac (by
    rw[k.out,Cf m];rfl)
   generalize a[c]=X at*;obtain⟨g,W,L⟩:=X;simp only at T U V f;obtain⟨y,B,q,s⟩:=newB wr 100 [fQ g,fQ W,fU L];have l:=(show Ht y F tt bk b t from v.below q);have d:=l.box.cell 0;have Y:=s.cell 0;simp only[Ag]at d Y;have ae:=l.book.Aiv;have aq:=λJ=>Acd (P:=prog) underlying151 underlying9 Ajf (y.drewN J) b.nt t.FZ g (l.map.below ((Dr.one _ J).below _))
   have u:=Ac (τ j.out q);have x:=Ac B;clear k q B s l;cases E:decide (e.toNat<(FO t.FZ g).toNat)with
   |true=>
    rw[E]at f;generalize(FO t.FZ g).toNat=S at*
    go_wp2_with fail
    rw[<-x.out]
    go_quiet(fail)
    go_wp2_with fail
    go_ret;exact⟨by rw[f.out];rfl,u.trans (((Dr.one _ _).below _))⟩
   |false=>
    rw[E]at f;generalize(FO t.FZ g).toNat=S at*
    go_wp2_with fail
    rw[<-x.out]
    go_quiet(fail)
    go_wp2_with fail
    go_roundw
    case rel=>exact⟨c+1,O1,by go_num,by rw[f.out];rfl,u.trans (((Dr.one _ _).below _))⟩
    case measure=>simp[intOf];omega
  ·obtain⟨Q,R⟩:=qA m;have f:Hid (KJ t.FZ a e=jw):=Ac (by rw[k.out,DR O1];rfl);clear k
   go_wp2_with fail
   go_ret;exact⟨by rw[f.out];rfl,j.out⟩
end
def bk0(m:Nat):Bk:={ats:=λ_=>0,ops:=λ_=>jw,Hg:=λ_=>(0,0),many:=0,st:=λ_=>fD none 0 0,nt:=m}
def tb0:Tb:={wt:={ats:=λ_=>0,ops:=λ_=>jw},sets:=λ_=>[],FZ:=[]}
def bkL(m:Nat):List Value:=[wv 0,wv 0,wv 0,wv 0,wv 0,wv 0,wv 0,wv 0,fU jw,fU jw,fU jw,fU jw,fU jw,fU jw,fU jw,fU jw,
 wv 0,fP gZ 0,wv 0,fP gZ 0,wv 0,fP gZ 0,wv 0,fP gZ 0,wv 0,fP gZ 0,wv 0,fP gZ 0,wv 0,fP gZ 0,wv 0,fP gZ 0,
 wv 0,fP gZ 0,wv 0,fP gZ 0,wv 0,fP gZ 0,wv 0,fP gZ 0,wv 0,fP gZ 0,wv 0,fP gZ 0,wv 0,fP gZ 0,wv 0,fP gZ 0,
 fP gZ 0,fD none 0 0,fD none 0 0,fD none 0 0,fD none 0 0,fD none 0 0,fD none 0 0,fD none 0 0,fD none 0 0,.map (some m)]
def lt8{i:Nat}(h:i<8):i=0\/i=1\/i=2\/i=3\/i=4\/i=5\/i=6\/i=7:=O1
def Awt{i:Nat}(h:i<16):i=0\/i=1\/i=2\/i=3\/i=4\/i=5\/i=6\/i=7\/i=8\/i=9\/i=10\/i=11\/i=12\/i=13\/i=14\/i=15:=O1
def Ajg{w:World}{bk m:Nat}(h:CB w bk 163 (bkL m)):DF w bk (bk0 m):=by
 refine⟨_,h,rfl,λb a=>?_,λb a=>?_,λb a=>?_,rfl,λb a=>?_,rfl⟩
 ·rcases lt8 a with rfl|rfl|rfl|rfl|rfl|rfl|rfl|rfl<;>rfl
 ·rcases lt8 a with rfl|rfl|rfl|rfl|rfl|rfl|rfl|rfl<;>rfl
 ·rcases Awt a with rfl|rfl|rfl|rfl|rfl|rfl|rfl|rfl|rfl|rfl|rfl|rfl|rfl|rfl|rfl|rfl<;>exact⟨rfl,rfl⟩
 ·rcases lt8 a with rfl|rfl|rfl|rfl|rfl|rfl|rfl|rfl<;>rfl
def Ajh(m:Nat):UQ (bk0 m):=⟨λb _ a=>absurd a (lF _),λ_⟨b,a,_⟩=>absurd a (lF _),λ_ _ h=>Bool.noConfusion h,by show 0<=16;omega⟩
def Aqq(F:Nat->Prop)(w:World)(hF:∀d,F d->d<w.heap.size):Calls prog 39 #[] w λg w'=>∃tt bk e,g=gY (ptr0 tt)/\w.heap.size<=tt/\w.heap.size<=bk/\w.heap.size<=e/\Ht w' F tt bk (bk0 e) tb0/\η w w':=by
 have m:=λf=>run_makeMap (P:=prog) 151 f
 go_enter func39,ntmps39
 go_wp2_with fail
 go_ret;refine⟨w.heap.size+1+1,w.heap.size+1,w.heap.size,rfl,O1,O1,O1,?_,(((Below.refl _ _).alloc (Nat.le_refl _) _).alloc Θ _).alloc (by simp;omega) _⟩;have k:(w.alloc (.map #[] 0)).heap.size=w.heap.size+1:=by simp
 obtain⟨a,b⟩:=ε ((w.alloc (.map #[] 0)).alloc (.cells (bkL w.heap.size).toArray 163));have l:a.heap.size=w.heap.size+1+1:=by rw[b];simp
 have j:CB a (w.heap.size+1) 163 (bkL w.heap.size):=by
  have:=heap_alloc_new (w.alloc (.map #[] 0)) (.cells (bkL w.heap.size).toArray 163);rw[k,<-b]at this;exact this
 have c:=heap_alloc_new a (.cells #[ptr0 (w.heap.size+1)] 165);rw[l]at c;have i:a.heap[w.heap.size]?=some (.map #[] 0):=by rw[b];exact(χ _ _ O1).trans (heap_alloc_new _ _)
 show Ht (((w.alloc (.map #[] 0)).alloc (.cells (bkL w.heap.size).toArray 163)).alloc (.cells #[ptr0 (w.heap.size+1)] 165)) _ _ _ _ _;rw[<-b];refine⟨c,Ajg ((χ _ _ O1).trans j),(χ _ _ (by show w.heap.size<_;omega)).trans i,rfl,λ_ _=>FI.nil,Ajh _,λh=>absurd (hF _ h) O1,λh=>absurd (hF _ h) (by show¬w.heap.size<w.heap.size;omega),λh=>absurd (hF _ h) O1,O1,?_,?_⟩
 ·show w.heap.size+1+1≠w.heap.size;omega
 ·show w.heap.size+1≠w.heap.size;omega
def df(t:Tb)(s:List Wr)(x:UInt64):Tb:={t with FZ:=sQ t.FZ s x}
section
variable{w w':World}{F F':Nat->Prop}{tt bk:Nat}{b:Bk}{t:Tb}
def Ht.note(h:Ht w F tt bk b t){l:List (ByteArray×UInt64)}(k:Touch (λk=>k=b.nt) w w')(e:PX w' b.nt l):Ht w' F tt bk b {t with FZ:=l}:=
 ⟨h.box.touch k h.ne2,h.book.touch k h.ne3,e,h.wt,λi c=>(h.sets i c).moved ⟨k.mono (λ_ a=>.inr (.inr a)),λ_ d=>.inl d⟩,h.pile,h.fb,h.fn,h.ft,h.ne1,h.ne2,h.ne3⟩
def Anf(h:Ht w F tt bk b t){v:Value}{s:List Wr}(x:UInt64)(o:FI w (λc=>c=b.nt) v s)(aq:s.length<=100000):
 Calls prog 55 #[ptr0 tt,v,fP .u64 (x.toNat:Int)] w λf w'=>f=gY (gJ #[])/\Ht w' F tt bk b (df t s x)/\Touch (λc=>c=b.nt) w w':=by
 have u:=Ac (PK h);obtain⟨M,V,rfl⟩:=o.slice;have R:=Ac o;have Q:=Ac h;clear h o;go_enter func55,ntmps55
 go_wp2_with fail
 refine u.mono ?_;rintro f az⟨rfl,rfl⟩
 go_wp2_with fail
 go_loopw [12](λq wr=>∃c a,c<=s.length/\q=fP gZ (c:Nat)/\sQ t.FZ s x=sQ a (s.drop c) x/\Ht wr F tt bk b {t with FZ:=a}/\Touch (λc=>c=b.nt) w wr)(λq _=>s.length-(intOf q).toNat)
 case atStart=>exact⟨0,t.FZ,BA _,rfl,rfl,Q.out,Touch.refl _ _⟩
 case round=>
  obtain⟨c,a,E,rfl,G,B,H⟩:=hrel;have k:=Ac G;have z:=Ac B;have m:=Ac H;clear G B H u;have n:FI wr (λc=>c=b.nt) (fD M s.length V) s:=R.moved ⟨m.out,λ_ E=>.inl E⟩;by_cases l:c<s.length
  ·obtain⟨al,aw,am,I,ao,an,ap,ab,ac,ad⟩:=n.at c l;simp only[Value.slice.injEq]at I;obtain⟨rfl,-,rfl⟩:=I;obtain⟨av,Y,Z⟩:=ltT l;have ar:=wk1 c O1;have j:Hid (sQ t.FZ s x=sQ (OQ a s[c].key (gW (FO a s[c].key) x)) (s.drop (c+1)) x):=Ac (by
    rw[k.out,Cf l];rfl)
   generalize s[c]=ah at*;obtain⟨e,ae,X⟩:=ah;simp only at ab ac ad j;obtain⟨g,C,D,r⟩:=newB wr 100 [fQ e,fQ ae,fU X];have i:Ht g F tt bk b {t with FZ:=a}:=z.below D;have d:=i.box.cell 0;have L:=r.cell 0;simp only[Ag]at d L;have W:=i.book.Aiv;have aa:=Acd (P:=prog) underlying151 underlying9 Ajf g.drew b.nt a e i.map;have J:=Aqa (P:=prog) underlying151 underlying9 g.drew b.nt a e (gW (FO a e) x) i.map;rw[show((gW (FO a e) x).toNat:Int)=if(FO a e).toNat<x.toNat then(x.toNat:Int)else((FO a e).toNat:Int)by unfold gW;split<;>rfl]at J;have T:=Ac C;have N:=Ac D;have y:=Ac i;clear C r i k n
   go_wp2_with fail
   rw[<-T.out];go_region
   all_goals(
    have K:PX (Eu g.drew b.nt (PW 0 (OQ a e (gW (FO a e) x))).toArray (OQ a e (gW (FO a e) x)).length) b.nt (OQ a e (gW (FO a e) x)):=Ov _ _ _ _ y.map.lt;have p:Touch (λc=>c=b.nt) g (Eu g.drew b.nt (PW 0 (OQ a e (gW (FO a e) x))).toArray (OQ a e (gW (FO a e) x)).length):=(Touch.of_below ((Dr.drew g).below _)).trans (JC _ _ _ _) (λ_ f=>.inl f);have A:=y.note p K;have S:=Ac A;have U:=Ac ((m.trans (Touch.of_below N.out) (λ_ f=>.inl f)).trans p (λ_ f=>.inl f));clear K p A d L W aa J
    go_wp2_with fail
    go_roundw)
   all_goals first
    |(case rel=>exact⟨c+1,_,O1,by go_num,j.out,S.out,U.out⟩)
    |(case measure=>simp[intOf];omega)
  ·obtain⟨Y,Z⟩:=qA l;have j:Hid (df t s x={t with FZ:=a}):=Ac (by unfold df;rw[k.out,DR O1];rfl);clear k n
   go_wp2_with fail
   go_end0;exact⟨rfl,by rw[j.out];exact z.out,m.out⟩
end
