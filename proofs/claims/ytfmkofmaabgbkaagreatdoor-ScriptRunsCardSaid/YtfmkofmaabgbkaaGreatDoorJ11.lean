import Derived.Deep.RegionHeld3
import Derived.Test.YtfmkofmaabgbkaaGreatDoorJ10
set_option linter.defProp false
set_option maxHeartbeats 32000000
set_option maxRecDepth 100000
open Go.Lib renaming hid->Ac
open Nat renaming le_refl->Ae
open List renaming getElem_range->Qj,mem_range->GK
open Go.Value renaming int->fP,bool->fU,tuple->gJ,pointer->gV
open Go.Ending renaming returned->gY
open Go.IntKind renaming i64->gZ,u64->ig
open Option renaming some->iC
open Bool renaming true->jm,false->jw
open Go renaming World->jD,Value->jL
namespace Go.Proofs.YtfmkofmaabgbkaaGreatDoor
open Go.RowKit
open Go.Proofs.Tryz
structure Bk where
 ats:Nat->UInt64
 ops:Nat->Bool
 Hg:Nat->Mk
 many:Nat
 st:Nat->jL
 nt:Nat
def DF(w:jD)(bk:Nat)(b:Bk):Prop:=
 ∃c:Array jL,w.heap[bk]?=iC (.cells c 163 (0,0))/\c.size=58/\(∀a,a<8->c[a]?=iC (wv (b.ats a)))/\(∀a,a<8->c[8+a]?=iC (fU (b.ops a)))/\
  (∀a,a<16->c[16+a*2]?=iC (wv (b.Hg a).1)/\c[16+a*2+1]?=iC (fP gZ ((b.Hg a).2:Int)))/\c[48]?=iC (fP gZ (b.many:Int))/\(∀a,a<8->c[49+a]?=iC (b.st a))/\c[57]?=iC (.map (iC b.nt))
section
variable{w w':jD}{bk:Nat}{b:Bk}
def DF.lt(h:DF w bk b):bk<w.heap.size:=by
 obtain⟨c,a,_⟩:=h;exact(Array.getElem?_eq_some_iff.1 a).1
def DF.keep(h:DF w bk b)(k:w'.heap[bk]?=w.heap[bk]?):DF w' bk b:=by
 obtain⟨a,c,d⟩:=h;exact⟨a,k.trans c,d⟩
def DF.below(h:DF w bk b)(k:η w w'):DF w' bk b:=h.keep (k.block _ h.lt)
def DF.touch{F:Nat->Prop}(h:DF w bk b)(t:Touch F w w')(a:¬F bk):DF w' bk b:=h.keep (t.block _ h.lt a)
def DF.frozen(h:DF w bk b)(i:Nat):w.frozen? (Δ bk i)=jw:=by
 obtain⟨c,a,_⟩:=h;simp[World.frozen?,a]
def DF.cellAt(h:DF w bk b)(i:Nat)(hi:i<8):w.cell? (Δ bk i)=iC (fP ig ((b.ats i).toNat:Int)):=by
 obtain⟨a,c,_,d,_⟩:=h;rw[cell_of_row w bk i a _ (0,0) c,d i hi];rfl
def DF.X5(h:DF w bk b)(i:Nat)(hi:i<8):w.cell? (Δ bk (8+i))=iC (fU (b.ops i)):=by
 obtain⟨a,c,_,_,d,_⟩:=h;rw[cell_of_row w bk (8+i) a _ (0,0) c,d i hi]
def DF.PY(h:DF w bk b)(i:Nat)(hi:i<16):w.cell? (Δ bk (16+i*2))=iC (fP ig ((b.Hg i).1.toNat:Int))/\w.cell? (Δ bk (16+i*2+1))=iC (fP gZ ((b.Hg i).2:Int)):=by
 obtain⟨a,c,_,_,_,d,_⟩:=h;rw[cell_of_row w bk (16+i*2) a _ (0,0) c,cell_of_row w bk (16+i*2+1) a _ (0,0) c,(d i hi).1,(d i hi).2];exact⟨rfl,rfl⟩
def DF.Kr(h:DF w bk b):w.cell? (Δ bk 48)=iC (fP gZ (b.many:Int)):=by
 obtain⟨a,c,_,_,_,_,d,_⟩:=h;rw[cell_of_row w bk 48 a _ (0,0) c,d]
def DF.cellSt(h:DF w bk b)(i:Nat)(hi:i<8):w.cell? (Δ bk (49+i))=iC (b.st i):=by
 obtain⟨a,c,_,_,_,_,_,d,_⟩:=h;rw[cell_of_row w bk (49+i) a _ (0,0) c,d i hi]
def DF.Aiv(h:DF w bk b):w.cell? (Δ bk 57)=iC (.map (iC b.nt)):=by
 obtain⟨a,c,_,_,_,_,_,_,d⟩:=h;rw[cell_of_row w bk 57 a _ (0,0) c,d]
def Uh{cur:Array jL}{i:Nat}{v:jL}(hi:i<cur.size)(k:Nat):(cur.setIfInBounds i v)[k]?=if k=i then iC v else cur[k]?:=by
 rw[Array.getElem?_setIfInBounds];by_cases a:i=k
 ·subst a;rw[jM rfl,jM rfl,jM hi]
 ·rw[ku a,ku (λh=>a h.symm)]
def DF.setAt(h:DF w bk b)(i:Nat)(hi:i<8)(x:UInt64):DF (w.setCell (Δ bk i) (fP ig (x.toNat:Int))) bk {b with ats:=λa=>if a=i then x else b.ats a}:=by
 obtain⟨f,g,j,k,l,e,m,n,o⟩:=h;have d:=λa=>Uh (cur:=f) (i:=i) (v:=fP ig (x.toNat:Int)) O a
 refine⟨_,FW _ g,by simpa using j,λa c=>?_,λa c=>?_,λa c=>⟨?_,?_⟩,?_,λa c=>?_,?_⟩
 ·rw[d];dsimp only;split
  ·rfl
  ·exact k a c
 ·rw[d,ku O];exact l a c
 ·rw[d,ku O];exact(e a c).1
 ·rw[d,ku O];exact(e a c).2
 ·rw[d,ku O];exact m
 ·rw[d,ku O];exact n a c
 ·rw[d,ku O];exact o
def DF.Ace(h:DF w bk b)(i:Nat)(hi:i<8)(x:Bool):DF (w.setCell (Δ bk (8+i)) (fU x)) bk {b with ops:=λa=>if a=i then x else b.ops a}:=by
 obtain⟨g,j,k,l,m,f,n,o,p⟩:=h;have d:=λa=>Uh (cur:=g) (i:=8+i) (v:=fU x) O a
 refine⟨_,FW _ j,by simpa using k,λa c=>?_,λa c=>?_,λa c=>⟨?_,?_⟩,?_,λa c=>?_,?_⟩
 ·rw[d,ku O];exact l a c
 ·rw[d];dsimp only;by_cases e:a=i
  ·rw[jM O,jM e]
  ·rw[ku O,ku e];exact m a c
 ·rw[d,ku O];exact(f a c).1
 ·rw[d,ku O];exact(f a c).2
 ·rw[d,ku O];exact n
 ·rw[d,ku O];exact o a c
 ·rw[d,ku O];exact p
def DF.bJ(h:DF w bk b)(i:Nat)(hi:i<16)(m:Mk):DF ((w.setCell (Δ bk (16+i*2)) (fP ig (m.1.toNat:Int))).setCell (Δ bk (16+i*2+1)) (fP gZ (m.2:Int))) bk {b with Hg:=λa=>if a=i then m else b.Hg a}:=by
 obtain⟨g,k,l,n,o,j,p,q,r⟩:=h;have d:=λa=>Uh (cur:=g) (i:=16+i*2) (v:=fP ig (m.1.toNat:Int)) O a
 have e:=λa=>Uh (cur:=g.setIfInBounds (16+i*2) (fP ig (m.1.toNat:Int))) (i:=16+i*2+1) (v:=fP gZ (m.2:Int)) (by simp;omega) a
 refine⟨_,FW _ (FW _ k),by simpa using l,λa c=>?_,λa c=>?_,λa c=>⟨?_,?_⟩,?_,λa c=>?_,?_⟩
 ·rw[e,ku O,d,ku O];exact n a c
 ·rw[e,ku O,d,ku O];exact o a c
 ·rw[e,ku O,d];dsimp only;by_cases f:a=i
  ·rw[jM O,jM f];rfl
  ·rw[ku O,ku f];exact(j a c).1
 ·rw[e];dsimp only;by_cases f:a=i
  ·rw[jM O,jM f]
  ·rw[ku O,d,ku O,ku f];exact(j a c).2
 ·rw[e,ku O,d,ku O];exact p
 ·rw[e,ku O,d,ku O];exact q a c
 ·rw[e,ku O,d,ku O];exact r
def DF.setMany(h:DF w bk b)(n:Nat):DF (w.setCell (Δ bk 48) (fP gZ (n:Int))) bk {b with many:=n}:=by
 obtain⟨f,g,j,k,l,e,p,m,o⟩:=h;have d:=λa=>Uh (cur:=f) (i:=48) (v:=fP gZ (n:Int)) O a
 refine⟨_,FW _ g,by simpa using j,λa c=>?_,λa c=>?_,λa c=>⟨?_,?_⟩,?_,λa c=>?_,?_⟩
 ·rw[d,ku O];exact k a c
 ·rw[d,ku O];exact l a c
 ·rw[d,ku O];exact(e a c).1
 ·rw[d,ku O];exact(e a c).2
 ·rw[d,jM rfl]
 ·rw[d,ku O];exact m a c
 ·rw[d,ku O];exact o
def DF.setSt(h:DF w bk b)(i:Nat)(hi:i<8)(x:jL):DF (w.setCell (Δ bk (49+i)) x) bk {b with st:=λa=>if a=i then x else b.st a}:=by
 obtain⟨g,j,k,l,m,f,n,o,p⟩:=h;have d:=λa=>Uh (cur:=g) (i:=49+i) (v:=x) O a
 refine⟨_,FW _ j,by simpa using k,λa c=>?_,λa c=>?_,λa c=>⟨?_,?_⟩,?_,λa c=>?_,?_⟩
 ·rw[d,ku O];exact l a c
 ·rw[d,ku O];exact m a c
 ·rw[d,ku O];exact(f a c).1
 ·rw[d,ku O];exact(f a c).2
 ·rw[d,ku O];exact n
 ·rw[d];dsimp only;by_cases e:a=i
  ·rw[jM O,jM e]
  ·rw[ku O,ku e];exact o a c
 ·rw[d,ku O];exact p
def IP(f:Nat->Mk)(i j k:Nat):Mk:=if k=i then f j else if k=j then f i else f k
def Hr(f:Nat->Mk)(k:Nat):Nat:=(f k).1.toNat
def Q5(f:Nat->Mk)(i j:Nat):Hr (IP f i j)=Sr (Hr f) i j:=by
 funext k;unfold Hr IP Sr;split
 ·rfl
 ·split<;>rfl
def Acf(h:DF w bk b):Calls prog 266 #[gV (iC (Δ bk 16))] w λa w'=>a=gY (fP gZ (b.many:Int))/\w=w':=by
 have c:=h.Kr;clear h;go_enter func266,ntmps266;go_wp2;go_ret;exact⟨rfl,rfl⟩
def Q7(h:DF w bk b)(i j:Nat)(hi:i<16)(d:j<16):Calls prog 267 #[gV (iC (Δ bk 16)),fP gZ (i:Int),fP gZ (j:Int)] w λc w'=>c=gY (fU (decide (Hr b.Hg i<Hr b.Hg j)))/\Dr w w':=by
 have e:=(h.PY i hi).1;have f:=(h.PY j d).1;have a:Hid (decide (Hr b.Hg i<Hr b.Hg j)=decide ((b.Hg i).1.toNat<(b.Hg j).1.toNat)):=Ac rfl;generalize(b.Hg i).1=g at*;generalize(b.Hg j).1=k at*;clear h;go_enter func267,ntmps267
 go_wp2_with fail
 go_quiet(fail)
 go_wp2_with fail
 rw[a.out];go_ret;exact⟨rfl,_,rfl⟩
end
section
variable{w w':jD}{bk:Nat}{b:Bk}
def Bk.Amt(f:Nat->Mk)(i j:Nat):(λa=>if a=j then f i else(λa=>if a=i then f j else f a) a)=IP f i j:=by
 funext a;unfold IP;by_cases c:a=i
 ·by_cases b:a=j
  ·rw[jM b,jM c,<-c,<-b]
  ·rw[ku b,jM c];dsimp only;rw[jM c]
 ·by_cases b:a=j
  ·rw[jM b,ku c,jM b]
  ·rw[ku b,ku c,ku b];dsimp only;rw[ku c]
def Bk.Amu(f:Nat->Mk)(i j:Nat):(λa=>if a=i then f j else(λa=>if a=j then f i else f a) a)=IP f i j:=by
 funext a;unfold IP;by_cases b:a=i
 ·simp only[jM b]
 ·simp only[ku b]
def DF.dr(h:DF w bk b)(k:Dr w w'):DF w' bk b:=h.below (k.below _)
def TE(h:DF w bk b)(i j:Nat)(hi:i<16)(e:j<16):Calls prog 270 #[gV (iC (Δ bk 16)),fP gZ (i:Int),fP gZ (j:Int)] w λm w'=>m=gY (gJ #[])/\DF w' bk {b with Hg:=IP b.Hg i j}/\Touch (λa=>a=bk) w w':=by
 have g:Hid (∀c,Dr w c->DF ((((c.setCell (Δ bk (16+i*2)) (fP ig ((b.Hg j).1.toNat:Int))).setCell (Δ bk (16+i*2+1)) (fP gZ ((b.Hg j).2:Int))).setCell (Δ bk (16+j*2)) (fP ig ((b.Hg i).1.toNat:Int))).setCell (Δ bk (16+j*2+1)) (fP gZ ((b.Hg i).2:Int))) bk {b with Hg:=IP b.Hg i j}/\
  Touch (λa=>a=bk) w ((((c.setCell (Δ bk (16+i*2)) (fP ig ((b.Hg j).1.toNat:Int))).setCell (Δ bk (16+i*2+1)) (fP gZ ((b.Hg j).2:Int))).setCell (Δ bk (16+j*2)) (fP ig ((b.Hg i).1.toNat:Int))).setCell (Δ bk (16+j*2+1)) (fP gZ ((b.Hg i).2:Int)))):=Ac (λc a=>by
  have d:=((h.dr a).bJ i hi (b.Hg j)).bJ j e (b.Hg i);simp only[Bk.Amt]at d;exact⟨d,((((Touch.of_below (F:=λa=>a=bk) (a.below _)).setCell (p:=Δ bk (16+i*2)) (.inl rfl) _).setCell (p:=Δ bk (16+i*2+1)) (.inl rfl) _).setCell (p:=Δ bk (16+j*2)) (.inl rfl) _).setCell (p:=Δ bk (16+j*2+1)) (.inl rfl) _⟩)
 have k:Hid (∀c,Dr w c->DF ((((c.setCell (Δ bk (16+j*2)) (fP ig ((b.Hg i).1.toNat:Int))).setCell (Δ bk (16+j*2+1)) (fP gZ ((b.Hg i).2:Int))).setCell (Δ bk (16+i*2)) (fP ig ((b.Hg j).1.toNat:Int))).setCell (Δ bk (16+i*2+1)) (fP gZ ((b.Hg j).2:Int))) bk {b with Hg:=IP b.Hg i j}/\
  Touch (λa=>a=bk) w ((((c.setCell (Δ bk (16+j*2)) (fP ig ((b.Hg i).1.toNat:Int))).setCell (Δ bk (16+j*2+1)) (fP gZ ((b.Hg i).2:Int))).setCell (Δ bk (16+i*2)) (fP ig ((b.Hg j).1.toNat:Int))).setCell (Δ bk (16+i*2+1)) (fP gZ ((b.Hg j).2:Int)))):=Ac (λc a=>by
  have d:=((h.dr a).bJ j e (b.Hg i)).bJ i hi (b.Hg j);simp only[Bk.Amu]at d;exact⟨d,((((Touch.of_below (F:=λa=>a=bk) (a.below _)).setCell (p:=Δ bk (16+j*2)) (.inl rfl) _).setCell (p:=Δ bk (16+j*2+1)) (.inl rfl) _).setCell (p:=Δ bk (16+i*2)) (.inl rfl) _).setCell (p:=Δ bk (16+i*2+1)) (.inl rfl) _⟩)
 have n:=h.PY i hi;have o:=h.PY j e;obtain⟨x,y⟩:=n;obtain⟨z,A⟩:=o;have s:=h.frozen (16+i*2);have t:=h.frozen (16+i*2+1);have f:=h.bJ i hi (b.Hg j);have l:=h.bJ j e (b.Hg i);obtain⟨B,C⟩:=f.PY j e;obtain⟨D,E⟩:=l.PY i hi;have u:=f.frozen (16+j*2);have v:=f.frozen (16+j*2+1);have q:(i:Int)<16:=O;have r:(j:Int)<16:=O;clear f l h;go_enter func270,ntmps270
 go_wp2_with fail
 go_region
 all_goals(go_wp2_with fail)
 all_goals(go_end0)
 all_goals(first
  |exact⟨rfl,(g w (Dr.refl w)).1.dr (Dr.drew _),(g w (Dr.refl w)).2.drew⟩
  |exact⟨rfl,(k w (Dr.refl w)).1.dr (Dr.drew _),(k w (Dr.refl w)).2.drew⟩)
def zA(x y:Int)(w:jD):(Instr.typeAssert (.iface 155 (.agg #[fP ig x,fP gZ y])) 20 155 jm).run prog w=.ok (gJ #[.agg #[fP ig x,fP gZ y],fU jm]) w:=by kernel_rfl
def mkV(m:Mk):jL:=.agg #[fP ig (m.1.toNat:Int),fP gZ (m.2:Int)]
def Aiw(h:DF w bk b)(m:Mk)(e:b.many<16):Calls prog 269 #[gV (iC (Δ bk 16)),.iface 155 (mkV m)] w λj w'=>j=gY (gJ #[])/\DF w' bk {b with Hg:=λa=>if a=b.many then m else b.Hg a,many:=b.many+1}/\Touch (λa=>a=bk) w w':=by
 have v:=zA (m.1.toNat:Int) (m.2:Int);unfold mkV;have g:=h.Kr;obtain⟨q,r⟩:=h.PY b.many e;have l:=h.frozen (16+b.many*2);have o:=h.frozen (16+b.many*2+1);have d:=h.bJ b.many e m;have i:=d.Kr;have k:=d.frozen 48;have c:Hid (DF (((w.setCell (Δ bk (16+b.many*2)) (fP ig (m.1.toNat:Int))).setCell (Δ bk (16+b.many*2+1)) (fP gZ (m.2:Int))).setCell (Δ bk 48) (fP gZ ((b.many+1:Nat):Int))) bk {b with Hg:=λa=>if a=b.many then m else b.Hg a,many:=b.many+1}/\
  Touch (λa=>a=bk) w (((w.setCell (Δ bk (16+b.many*2)) (fP ig (m.1.toNat:Int))).setCell (Δ bk (16+b.many*2+1)) (fP gZ (m.2:Int))).setCell (Δ bk 48) (fP gZ ((b.many+1:Nat):Int)))):=
  Ac ⟨d.setMany (b.many+1),(((Touch.refl (λa=>a=bk) w).setCell (p:=Δ bk (16+b.many*2)) (.inl rfl) _).setCell (p:=Δ bk (16+b.many*2+1)) (.inl rfl) _).setCell (p:=Δ bk 48) (.inl rfl) _⟩
 have t:=h.lt;obtain⟨n,f⟩:=ε b.many;simp only[<-f]at g q r l o e i k c⊢;rw[show((n+1:Nat):Int)=(n:Int)+1 by omega]at c;have s:(n:Int)<16:=O;have u:=wk1 n O;clear h d f;go_enter func269,ntmps269
 go_wp2_with fail
 go_region
 all_goals(go_wp2_with fail)
 all_goals(go_end0)
 all_goals(exact⟨rfl,(c.1.below ((Below.refl _ _).alloc (Ae _) _)).dr (Dr.drew _),(c.2.alloc _).drew⟩)
def Amv(h:DF w bk b)(n:Nat)(e:b.many=n+1)(j:n<16):Calls prog 268 #[gV (iC (Δ bk 16))] w λi w'=>i=gY (.iface 155 (mkV (b.Hg n)))/\DF w' bk {b with many:=n}/\Touch (λa=>a=bk) w w':=by
 have f:=h.Kr;have o:=h.frozen 48;have c:=h.setMany n;have g:=c.Kr;obtain⟨k,l⟩:=c.PY n j;have d:Hid (DF (w.setCell (Δ bk 48) (fP gZ (n:Int))) bk {b with many:=n}/\Touch (λa=>a=bk) w (w.setCell (Δ bk 48) (fP gZ (n:Int)))):=
  Ac ⟨c,(Touch.refl (λa=>a=bk) w).setCell (p:=Δ bk 48) (.inl rfl) _⟩
 rw[e,show((n+1:Nat):Int)=(n:Int)+1 by omega]at f;have m:(n:Int)<16:=O;have q:IntKind.i64.wrap ((n:Int)+1-1)=(n:Int):=by rw[show(n:Int)+1-1=(n:Int)by omega];exact IntWalk.i64_in _ O
 unfold mkV;simp only at k l g;clear h c e;go_enter func268,ntmps268
 go_wp2_with fail
 go_quiet(fail)
 go_wp2_with fail
 go_ret;exact⟨rfl,d.1.dr (Dr.one _ _),d.2.trans (Touch.of_below (F:=λa=>a=bk) ((Dr.one _ _).below _)) (λ_ h=>.inl h)⟩
end
def zB(f:Nat)(a:Addr)(w:jD):(method (f+1) 226 (gV (iC a)) "Push").run prog w=.ok (269,gV (iC a)) w:=by kernel_rfl
def Aeq(f:Nat)(a:Addr)(w:jD):(method (f+1) 226 (gV (iC a)) "Pop").run prog w=.ok (268,gV (iC a)) w:=by kernel_rfl
def jC(f:Nat)(a:Addr)(w:jD):(method (f+1) 226 (gV (iC a)) "Len").run prog w=.ok (266,gV (iC a)) w:=by kernel_rfl
def bK(f:Nat)(a:Addr)(w:jD):(method (f+1) 226 (gV (iC a)) "Less").run prog w=.ok (267,gV (iC a)) w:=by kernel_rfl
def Vz(f:Nat)(a:Addr)(w:jD):(method (f+1) 226 (gV (iC a)) "Swap").run prog w=.ok (270,gV (iC a)) w:=by kernel_rfl
def bM(f:Nat->Mk)(n:Nat)(m:Mk):Prop:=∃a,a<n/\f a=m
def Q8{f:Nat->Mk}{n i j:Nat}(hi:i<n)(g:j<n)(m:Mk):bM (IP f i j) n m<->bM f n m:=by
 constructor
 ·rintro⟨b,d,a⟩;unfold IP at a;split at a
  ·exact⟨j,g,a⟩
  ·split at a
   ·exact⟨i,hi,a⟩
   ·exact⟨b,d,a⟩
 ·rintro⟨b,d,a⟩;by_cases e:b=i
  ·subst e;refine⟨j,g,?_⟩;unfold IP;by_cases c:j=b
   ·subst c;rw[jM rfl];exact a
   ·rw[ku c,jM rfl];exact a
  ·by_cases c:b=j
   ·subst c;exact⟨i,hi,by unfold IP;rw[jM rfl];exact a⟩
   ·exact⟨b,d,by unfold IP;rw[ku e,ku c];exact a⟩
section
variable{w:jD}{bk n:Nat}{b:Bk}
def Aqb(j:Nat)(h:DF w bk b)(D:j<n)(N:n<=16)(A:Rq (Hr b.Hg) j n):
 Calls prog 162 #[.iface 226 (gV (iC (Δ bk 16))),fP gZ (j:Int)] w λl w'=>l=gY (gJ #[])/\
  ∃d,(∀e,bM d n e<->bM b.Hg n e)/\FX (Hr d) n/\DF w' bk {b with Hg:=d}/\Touch (λa=>a=bk) w w':=by
 have P:=λd p=>bK d (Δ bk 16) p
 have Q:=λd p=>Vz d (Δ bk 16) p
 go_enter func162,ntmps162
 go_wp2_with fail
 go_loopw [1](λc wr=>∃(a:Nat)(d:Nat->Mk),a<n/\c=fP gZ (a:Nat)/\(∀e,bM d n e<->bM b.Hg n e)/\Rq (Hr d) a n/\DF wr bk {b with Hg:=d}/\Touch (λa=>a=bk) w wr)(λc _=>(intOf c).toNat)
 case atStart=>exact⟨j,b.Hg,D,rfl,λ_=>Iff.rfl,A,h,Touch.refl _ _⟩
 case round=>
  obtain⟨a,k,E,rfl,s,q,r,t⟩:=hrel;clear h D A;by_cases J:a=0
  ·subst J
   go_wp2_with fail
   go_end0;exact⟨rfl,k,s,Rt q (λh=>absurd h O),r,t⟩
  ·have x:=Ac q;have o:=Ac r;have v:=Ac s;have u:=Ac t;clear q r s t;obtain⟨c,C⟩:∃c,(a-1)/2=c:=⟨_,rfl⟩;have M:c<a:=O;have L:((a:Int) -1)/2=(c:Int):=O;have t1:((c:Int)==(a:Int))=jw:=ζ O;have f:=Ac (Q7 o.out a c O O);simp only at f;by_cases g:Hr k a<Hr k c
   ·rw[decide_eq_true g]at f;have m:=Ac g;clear g
    go_wp2_with fail
    refine f.mono ?_;rintro l K⟨rfl,i⟩;have G:=o.below (i.below _);have z:=Ac (TE G c a O O);simp only at z;clear G f
    go_wp2_with fail
    refine z.mono ?_;rintro l R⟨rfl,B,y⟩;have I:=Ac B;have H:=Ac ((u.trans (Touch.of_below (F:=λa=>a=bk) (i.below _)) (λ_ h=>.inl h)).trans y (λ_ h=>.inl h));clear B y
    go_wp2_with fail
    go_roundw
    case rel=>
     refine⟨c,IP k c a,O,rfl,λe=>(Q8 O E e).trans (v e),?_,I.out,H.out⟩;rw[Q5];exact Yu x.out O E C m.out
    case measure=>simp[intOf];omega
   ·rw[decide_eq_false g]at f;have m:=Ac g;clear g
    go_wp2_with fail
    refine f.mono ?_;rintro l K⟨rfl,i⟩
    go_wp2_with fail
    go_end0;exact⟨rfl,k,v.out,Rt x.out (λ_=>by have:=m.out;rw[<-C]at this;omega),o.below (i.below _),u.trans (Touch.of_below (F:=λa=>a=bk) (i.below _)) (λ_ h=>.inl h)⟩
end
section
variable{w:jD}{bk:Nat}{b:Bk}
def Aix(n:Nat)(h:DF w bk b)(ao:n<=15)(Y:Np (Hr b.Hg) 0 n):
 Calls prog 200 #[.iface 226 (gV (iC (Δ bk 16))),fP gZ 0,fP gZ (n:Int)] w λr w'=>(∃b,r=gY (fU b))/\
  ∃q,(∀p,bM q n p<->bM b.Hg n p)/\FX (Hr q) n/\(∀a,n<=a->q a=b.Hg a)/\DF w' bk {b with Hg:=q}/\Touch (λa=>a=bk) w w':=by
 have ar:=λq X=>bK q (Δ bk 16) X
 have av:=λq X=>Vz q (Δ bk 16) X
 go_enter func200,ntmps200
 go_wp2_with fail
 go_loopw [7](λd wr=>∃(a:Nat)(q:Nat->Mk),(a=0\/a<n)/\d=fP gZ (a:Nat)/\(∀p,bM q n p<->bM b.Hg n p)/\Np (Hr q) a n/\(∀a,n<=a->q a=b.Hg a)/\DF wr bk {b with Hg:=q}/\Touch (λa=>a=bk) w wr)(λd _=>n-(intOf d).toNat)
 case atStart=>exact⟨0,b.Hg,.inl rfl,rfl,λ_=>Iff.rfl,Y,λ_ _=>rfl,h,Touch.refl _ _⟩
 case round=>
  obtain⟨d,f,an,rfl,s,Z,j,aa,ab⟩:=hrel;have I:=Ac Z;have K:=Ac aa;have H:=Ac s;have V:=Ac ab;have G:=Ac j;have ap:d<=n:=O;clear h Y Z aa s ab j;by_cases al:n<=2*d+1
  ·have t1:decide ((n:Int)<=2*(d:Int)+1)=jm:=decide_eq_true O
   go_wp2_with fail
   go_ret;exact⟨⟨_,rfl⟩,f,H.out,Ir I.out (λa y j s=>O),G.out,K.out,V.out⟩
  ·have t1:decide ((n:Int)<=2*(d:Int)+1)=jw:=decide_eq_false O;obtain⟨c,l⟩:∃c,2*d+1=c:=⟨_,rfl⟩;obtain⟨e,J⟩:∃e,c+1=e:=⟨_,rfl⟩;have ae:2*(d:Int)+1=(c:Int):=O;have ah:(c:Int)+1=(e:Int):=O;have t4:decide ((n:Int)<=(c:Int))=jw:=decide_eq_false O;have t5:decide ((c:Int)<0)=jw:=decide_eq_false O;have L:Hid (2*d+1=c):=Ac l;have M:Hid (2*d+2=e):=Ac O;have aq:c<n:=O;clear t1 l J;by_cases am:e<n
   ·have t2:decide ((e:Int)<(n:Int))=jm:=decide_eq_true O;by_cases W:Hr f e<Hr f c
    ·have N:=Ac W;clear W;have x:=Ac (Q7 K.out e c O O);simp only at x;rw[decide_eq_true N.out]at x
     go_wp2_with fail
     refine x.mono ?_;rintro r ad⟨rfl,S⟩;have C:=K.below (S.below _);have D:=V.trans (Touch.of_below (F:=λa=>a=bk) (S.below _)) (λ_ h=>.inl h);clear x;have u:=Ac C;have A:=Ac D;clear C D;have l:e<n:=O;have J:(e-1)/2=d:=Ψ L.out M.out;have z:Hid (∀a,0<a->a<n->(a-1)/2=d->Hr f e<=Hr f a):=Ac (λa y j s=>by
      have T:a=c\/a=e:=Ψ L.out M.out;rcases T with rfl|rfl
      ·have:=N.out;omega
      ·exact Ae _)
     have i:=Ac (Q7 u.out e d O O);simp only at i;by_cases g:Hr f e<Hr f d
     ·have t:=Ac g;rw[decide_eq_true g]at i;clear g
      go_wp2_with fail
      refine i.mono ?_;rintro r U⟨rfl,k⟩;have m:=u.below (k.below _);have o:=A.trans (Touch.of_below (F:=λa=>a=bk) (k.below _)) (λ_ h=>.inl h);have v:=Ac (TE m d e O O);simp only at v;have P:=Ac o;clear m o i
      go_wp2_with fail
      refine v.mono ?_;rintro r ac⟨rfl,B,E⟩;have R:=Ac B;have Q:=Ac (P.trans E (λ_ h=>.inl h));clear B E v
      go_wp2_with fail
      go_roundw
      case rel=>
       refine⟨e,IP f d e,.inr l,rfl,λp=>(Q8 O l p).trans (H p),?_,λa j=>?_,R.out,Q.out⟩
       ·rw[Q5];exact JI I.out O l J z.out t.out
       ·unfold IP;rw[ku O,ku O];exact G a j
      case measure=>simp[intOf];omega
     ·have t:=Ac g;rw[decide_eq_false g]at i;clear g
      go_wp2_with fail
      refine i.mono ?_;rintro r U⟨rfl,k⟩;have m:=u.below (k.below _);have o:=A.trans (Touch.of_below (F:=λa=>a=bk) (k.below _)) (λ_ h=>.inl h)
      go_wp2_with fail
      go_ret;exact⟨⟨_,rfl⟩,f,H.out,Ir I.out (λa y j s=>Ψ (z a y j s) t.out),G.out,m,o⟩
    ·have N:=Ac W;clear W;have x:=Ac (Q7 K.out e c O O);simp only at x;rw[decide_eq_false N.out]at x
     go_wp2_with fail
     refine x.mono ?_;rintro r ad⟨rfl,S⟩;have C:=K.below (S.below _);have D:=V.trans (Touch.of_below (F:=λa=>a=bk) (S.below _)) (λ_ h=>.inl h);clear x;have u:=Ac C;have A:=Ac D;clear C D;have l:c<n:=O;have J:(c-1)/2=d:=Ψ L.out M.out;have z:Hid (∀a,0<a->a<n->(a-1)/2=d->Hr f c<=Hr f a):=Ac (λa y j s=>by
      have T:a=c\/a=e:=Ψ L.out M.out;rcases T with rfl|rfl
      ·exact Ae _
      ·have:=N.out;omega)
     have i:=Ac (Q7 u.out c d O O);simp only at i;by_cases g:Hr f c<Hr f d
     ·have t:=Ac g;rw[decide_eq_true g]at i;clear g
      go_wp2_with fail
      refine i.mono ?_;rintro r U⟨rfl,k⟩;have m:=u.below (k.below _);have o:=A.trans (Touch.of_below (F:=λa=>a=bk) (k.below _)) (λ_ h=>.inl h);have v:=Ac (TE m d c O O);simp only at v;have P:=Ac o;clear m o i
      go_wp2_with fail
      refine v.mono ?_;rintro r ac⟨rfl,B,E⟩;have R:=Ac B;have Q:=Ac (P.trans E (λ_ h=>.inl h));clear B E v
      go_wp2_with fail
      go_roundw
      case rel=>
       refine⟨c,IP f d c,.inr l,rfl,λp=>(Q8 O l p).trans (H p),?_,λa j=>?_,R.out,Q.out⟩
       ·rw[Q5];exact JI I.out O l J z.out t.out
       ·unfold IP;rw[ku O,ku O];exact G a j
      case measure=>simp[intOf];omega
     ·have t:=Ac g;rw[decide_eq_false g]at i;clear g
      go_wp2_with fail
      refine i.mono ?_;rintro r U⟨rfl,k⟩;have m:=u.below (k.below _);have o:=A.trans (Touch.of_below (F:=λa=>a=bk) (k.below _)) (λ_ h=>.inl h)
      go_wp2_with fail
      go_ret;exact⟨⟨_,rfl⟩,f,H.out,Ir I.out (λa y j s=>Ψ (z a y j s) t.out),G.out,m,o⟩
   ·have t2:decide ((e:Int)<(n:Int))=jw:=decide_eq_false O;have C:=K.out;have D:=V.out;have u:=Ac C;have A:=Ac D;clear C D;have l:c<n:=O;have J:(c-1)/2=d:=Ψ L.out M.out;have z:Hid (∀a,0<a->a<n->(a-1)/2=d->Hr f c<=Hr f a):=Ac (λa y j s=>by
     have T:a=c\/a=e:=Ψ L.out M.out;rcases T with rfl|rfl
     ·exact Ae _
     ·omega)
    have i:=Ac (Q7 u.out c d O O);simp only at i;by_cases g:Hr f c<Hr f d
    ·have t:=Ac g;rw[decide_eq_true g]at i;clear g
     go_wp2_with fail
     refine i.mono ?_;rintro r U⟨rfl,k⟩;have m:=u.below (k.below _);have o:=A.trans (Touch.of_below (F:=λa=>a=bk) (k.below _)) (λ_ h=>.inl h);have v:=Ac (TE m d c O O);simp only at v;have P:=Ac o;clear m o i
     go_wp2_with fail
     refine v.mono ?_;rintro r ac⟨rfl,B,E⟩;have R:=Ac B;have Q:=Ac (P.trans E (λ_ h=>.inl h));clear B E v
     go_wp2_with fail
     go_roundw
     case rel=>
      refine⟨c,IP f d c,.inr l,rfl,λp=>(Q8 O l p).trans (H p),?_,λa j=>?_,R.out,Q.out⟩
      ·rw[Q5];exact JI I.out O l J z.out t.out
      ·unfold IP;rw[ku O,ku O];exact G a j
     case measure=>simp[intOf];omega
    ·have t:=Ac g;rw[decide_eq_false g]at i;clear g
     go_wp2_with fail
     refine i.mono ?_;rintro r U⟨rfl,k⟩;have m:=u.below (k.below _);have o:=A.trans (Touch.of_below (F:=λa=>a=bk) (k.below _)) (λ_ h=>.inl h)
     go_wp2_with fail
     go_ret;exact⟨⟨_,rfl⟩,f,H.out,Ir I.out (λa y j s=>Ψ (z a y j s) t.out),G.out,m,o⟩
def sZ{f:Nat->Mk}{n:Nat}(m:Mk)(h:FX (Hr f) n):Rq (Hr λa=>if a=n then m else f a) n (n+1):=by
 have d:∀a,a<n->Hr (λa=>if a=n then m else f a) a=Hr f a:=λa c=>by unfold Hr;dsimp only;rw[ku O]
 refine⟨λa b c g=>?_,λb a e c i=>O⟩;rw[d a O,d _ O];exact h a b O
def WB(m:Mk)(h:DF w bk b)(q:b.many<16)(o:FX (Hr b.Hg) b.many):
 Calls prog 124 #[.iface 226 (gV (iC (Δ bk 16))),.iface 155 (mkV m)] w λa w'=>a=gY (gJ #[])/\
  ∃c,(∀d,bM c (b.many+1) d<->bM b.Hg b.many d\/d=m)/\FX (Hr c) (b.many+1)/\DF w' bk {b with Hg:=c,many:=b.many+1}/\Touch (λd=>d=bk) w w':=by
 have C:=λc i=>zB c (Δ bk 16) i
 have B:=λc i=>jC c (Δ bk 16) i
 have e:=Ac (Aiw h m q);have k:=Ac (sZ m o);obtain⟨n,r⟩:=ε b.many;simp only[<-r]at e k q⊢;unfold mkV at e⊢;clear h o;go_enter func124,ntmps124
 go_wp2_with fail
 refine e.mono ?_;rintro a D⟨rfl,j,s⟩;have g:=Ac (Acf j);have l:=Ac (Aqb n j (by omega:n<n+1) O k.out);simp only at g l;rw[show((n+1:Nat):Int)=(n:Int)+1 by omega]at g;have t:=Ac s;have A:IntKind.i64.wrap ((n:Int)+1-1)=(n:Int):=by rw[show(n:Int)+1-1=(n:Int)by omega];exact IntWalk.i64_in _ O
 clear j s e r
 go_wp2_with fail
 refine g.mono ?_;rintro a w'⟨rfl,rfl⟩
 go_wp2_with fail
 refine l.mono ?_;rintro a E⟨rfl,c,y,u,x,z⟩
 go_wp2_with fail
 go_end0;refine⟨rfl,c,λd=>(y d).trans ⟨?_,?_⟩,u,x,t.trans z (λ_ h=>.inl h)⟩
 ·rintro⟨f,v,a⟩
  dsimp only at a
  by_cases p:f=n
  ·rw[jM p]at a;exact .inr a.symm
  ·rw[ku p]at a;exact .inl ⟨f,O,a⟩
 ·rintro(⟨f,v,a⟩|rfl)
  ·exact⟨f,O,by dsimp only;rw[ku O];exact a⟩
  ·exact⟨n,O,by dsimp only;rw[jM rfl]⟩
def tq(h:DF w bk b)(n:Nat)(p:b.many=n+1)(r:n<16)(s:FX (Hr b.Hg) (n+1)):
 Calls prog 171 #[.iface 226 (gV (iC (Δ bk 16)))] w λa w'=>a=gY (.iface 155 (mkV (b.Hg 0)))/\
  ∃d,(∀c,bM d n c->bM b.Hg (n+1) c)/\(∀c,c≠b.Hg 0->bM b.Hg (n+1) c->bM d n c)/\FX (Hr d) n/\DF w' bk {b with Hg:=d,many:=n}/\Touch (λc=>c=bk) w w':=by
 have S:=λd e=>Aeq d (Δ bk 16) e
 have R:=λd e=>jC d (Δ bk 16) e
 have T:=λd e=>Vz d (Δ bk 16) e
 have k:=Ac (Acf h);have l:=Ac (TE h 0 n O r);rw[p,show((n+1:Nat):Int)=(n:Int)+1 by omega]at k;rw[show((0:Nat):Int)=0 from rfl]at l;have v:Np (Hr (IP b.Hg 0 n)) 0 n:=by
  rw[Q5];exact UO s
 have F:=Ac v;have G:=Ac p;have Q:IntKind.i64.wrap ((n:Int)+1-1)=(n:Int):=by rw[show(n:Int)+1-1=(n:Int)by omega];exact IntWalk.i64_in _ O
 clear h s v p;go_enter func171,ntmps171
 go_wp2_with fail
 refine k.mono ?_;rintro a w'⟨rfl,rfl⟩
 go_wp2_with fail
 refine l.mono ?_;rintro a U⟨rfl,z,C⟩;have i:=Ac (Aix n z O F.out);simp only at i;have H:=Ac C;clear k l z C
 go_wp2_with fail
 refine i.mono ?_;rintro a V⟨⟨P,rfl⟩,d,B,u,x,A,D⟩;have g:=Ac (Amv A n G.out r);simp only at g;have t:d n=b.Hg 0:=by
  rw[x n (Ae _)];unfold IP;by_cases a:n=0
  ·subst a;rw[jM rfl]
  ·rw[ku a,jM rfl]
 rw[t]at g;have E:=Ac u;have q:=Ac B;have I:=Ac (H.trans D (λ_ h=>.inl h));clear A D x u B i t;unfold mkV at g
 go_wp2_with fail
 refine g.mono ?_;rintro a W⟨rfl,M,N⟩
 go_wp2_with fail
 go_ret;refine⟨rfl,d,λc o=>?_,λc y o=>?_,E.out,M,I.trans N (λ_ h=>.inl h)⟩
 ·obtain⟨f,K,a⟩:=(q c).1 o;have J:bM (IP b.Hg 0 n) (n+1) c:=⟨f,O,a⟩;exact(Q8 O O c).1 J
 ·obtain⟨f,K,a⟩:=(Q8 (f:=b.Hg) (n:=n+1) (i:=0) (j:=n) O O c).2 o;refine(q c).2 ⟨f,?_,a⟩;by_cases L:f=n
  ·exfalso;subst L;unfold IP at a;by_cases m:f=0
   ·rw[jM m,m]at a;exact y a.symm
   ·rw[ku m,jM rfl]at a;exact y a.symm
  ·omega
end
def Bk.wt(b:Bk):Wt:={ats:=b.ats,ops:=b.ops}
structure UQ(b:Bk):Prop where
 heap:FX (Hr b.Hg) b.many
 ids:∀m,bM b.Hg b.many m->m.2<8
 has:∀i,i<8->b.ops i=jm->bM b.Hg b.many (b.ats i,i)
 len:b.many<=16
section
variable{w w':jD}{bk:Nat}{b:Bk}
def tu(h:DF w bk b)(id:Int):Calls prog 133 #[ptr0 bk,fP gZ id] w λf w'=>f=gY (fU (EY b.wt id))/\w=w':=by
 by_cases d:0<=id
 ·have t1:decide (0<=id)=jm:=decide_eq_true d;by_cases e:id<8
  ·have t2:decide (id<8)=jm:=decide_eq_true e;obtain⟨a,rfl⟩:∃a:Nat,id=(a:Int):=⟨id.toNat,O⟩;have g:=h.X5 a O;have c:Hid (EY b.wt (a:Int)=b.ops a):=Ac (by unfold EY;rw[t1,t2];rfl);generalize b.ops a=i at*;clear h;go_enter func133,ntmps133;go_wp2;go_ret;exact⟨by rw[c.out];rfl,rfl⟩
  ·have t2:decide (id<8)=jw:=decide_eq_false e;have c:Hid (EY b.wt id=jw):=Ac (by unfold EY;rw[t1,t2];rfl);clear h;go_enter func133,ntmps133;go_wp2;go_ret;exact⟨by rw[c.out];rfl,rfl⟩
 ·have t1:decide (0<=id)=jw:=decide_eq_false d;have c:Hid (EY b.wt id=jw):=Ac (by unfold EY;rw[t1];rfl);clear h;go_enter func133,ntmps133;go_wp2;go_ret;exact⟨by rw[c.out];rfl,rfl⟩
def Oe{t:Wt}{id:Int}(h:EY t id=jm):∃a:Nat,id=(a:Int)/\a<8/\t.ops a=jm:=by
 unfold EY at h;simp only[Bool.and_eq_true,decide_eq_true_eq]at h;exact⟨id.toNat,O,O,h.2.2⟩
def atV(t:Wt)(id:Int):jL:=if EY t id=jm then gJ #[fP ig ((t.ats id.toNat).toNat:Int),fU jm]else gJ #[fP ig 0,fU jw]
def nP(h:DF w bk b)(id:Int):Calls prog 86 #[ptr0 bk,fP gZ id] w λe w'=>e=gY (atV b.wt id)/\w=w':=by
 have c:=Ac (tu h id);cases a:EY b.wt id with
 |false=>
  rw[a]at c;have d:Hid (atV b.wt id=gJ #[fP ig 0,fU jw]):=Ac (by unfold atV;rw[ku (by rw[a];exact Bool.false_ne_true)]);clear h a;go_enter func86,ntmps86
  go_wp2_with fail
  refine c.mono ?_;rintro e i⟨rfl,rfl⟩
  go_wp2_with fail
  go_ret2;exact⟨by rw[d.out];rfl,rfl⟩
 |true=>
  rw[a]at c;have d:Hid (atV b.wt id=gJ #[fP ig ((b.ats id.toNat).toNat:Int),fU jm]):=Ac (by unfold atV;rw[jM a];rfl);obtain⟨f,rfl,g,_⟩:=Oe a;have k:=h.cellAt f g;rw[Int.toNat_natCast]at d;have j:(f:Int)<8:=O;clear h a;go_enter func86,ntmps86
  go_wp2_with fail
  refine c.mono ?_;rintro e i⟨rfl,rfl⟩
  go_wp2_with fail
  go_ret2;exact⟨by rw[d.out];rfl,rfl⟩
def Og(t:Wt):Int:=match PH t with
 |some a=>(a:Int)
 |none=> -1
def jE(h:DF w bk b):Calls prog 122 #[.slice (iC (Δ bk 8)) 8 8,fU jw] w λi w'=>i=gY (fP gZ (Og b.wt))/\w=w':=by
 go_enter func122,ntmps122
 go_wp2_with fail
 go_loop [8](λe=>∃a:Nat,a<=8/\e=fP gZ (a:Nat)/\∀c,c<a->b.ops c=jm)(λe=>8-(intOf e).toNat)
 case atStart=>exact⟨0,O,rfl,λc m=>absurd m O⟩
 case round=>
  obtain⟨a,u,rfl,l⟩:=hrel;have g:=Ac l;clear l;by_cases k:a<8
  ·have j:=h.X5 a k;have t:(a:Int)<8:=O;cases d:b.ops a with
   |false=>
    have f:Hid (Og b.wt=(a:Int)):=Ac (by
     unfold Og PH;have:(List.range 8).find? (λe=> !b.wt.ops e)=iC a:=List.find?_eq_some_iff_getElem.2 ⟨by show(!b.ops a)=jm;rw[d];rfl,a,by simpa using k,Qj ..,λn p=>by
      rw[Qj];show(!!b.ops n)=jm;rw[g n p];rfl⟩
     rw[this])
    rw[d]at j;clear d;go_wp2;go_ret;exact⟨by rw[f.out];rfl,rfl⟩
   |true=>
    have o:Hid (∀c,c<a+1->b.ops c=jm):=Ac (λc m=>by
     by_cases i:c=a
     ·subst i;exact d
     ·exact g c O)
    rw[d]at j;clear d;go_wp2
    go_round
    case rel=>exact⟨a+1,O,by go_num,o.out⟩
    case measure=>simp[intOf];omega
  ·have q:a=8:=O;subst q;have f:Hid (Og b.wt= -1):=Ac (by
    unfold Og PH;rw[List.find?_eq_none.2 (λs r=>by simp[Bk.wt,g s (GK.1 r)])])
   go_wp2;go_ret;exact⟨by rw[f.out];rfl,rfl⟩
end
section
variable{w w':jD}{bk:Nat}{b:Bk}
def opsV(b:Bk):List jL:=(List.range 8).map λa=>fU (b.ops a)
def Amw(b:Bk){k:Nat}(a:k<8):(opsV b)[k]?=iC (fU (b.ops k)):=by simp[opsV,a]
def Aiy(b:Bk){k:Nat}(d:k<8)(a:jD):(Instr.index 153 (.agg (opsV b).toArray) (fP gZ (k:Int))).run prog a=.ok (fU (b.ops k)) a:=by
 have c:k=0\/k=1\/k=2\/k=3\/k=4\/k=5\/k=6\/k=7:=O;rcases c with rfl|rfl|rfl|rfl|rfl|rfl|rfl|rfl<;>rfl
def zC(h:DF w bk b):Calls prog 123 #[ptr0 bk] w λd w'=>d=gY (gJ #[])/\
 ∃e n,n<=8/\FX (Hr e) n/\(∀g,bM e n g->g.2<8)/\(∀f,f<8->b.ops f=jm->bM e n (b.ats f,f))/\DF w' bk {b with Hg:=e,many:=n}/\Touch (λa=>a=bk) w w':=by
 have V:=h.Kr;have W:=h.frozen 48;obtain⟨x,k⟩:=ε (w.setCell (Δ bk 48) (fP gZ 0));have z:DF x bk {b with many:=0}:=by rw[k];exact h.setMany 0
 have R:Hid (Touch (λa=>a=bk) w x):=Ac (by rw[k];exact(Touch.refl (λa=>a=bk) w).setCell (p:=Δ bk 48) (.inl rfl) _);have N:=Ac z;have Q:Hid ((prog.info? 153).map (·.size)=iC (opsV b).length):=Ac Γ;have P:Hid (∀c G,(opsV b)[c]?=iC G->x.cell? (Δ bk (8+c))=iC G):=Ac (by
  intro c G F;have i:c<8:=by
   have:=(List.getElem?_eq_some_iff.1 F).1;simpa[opsV]using this
  rw[Amw b i]at F;rw[<-F];exact z.X5 c i)
 have T:=Ac k;clear h z k;go_enter func123,ntmps123
 go_wp2_with(first
  |(rw[<-T.out];with_reducible refine Tj rfl 153 (.tmp 10) rfl bk 8 rfl (opsV b) _ underlying153 rfl Q.out P.out ?_)
  |fail)
 have K:FX (Hr b.Hg) 0:=λa J=>O
 go_loopw [12](λf wr=>∃(a n:Nat)(e:Nat->Mk),a<=8/\n<=a/\f=fP gZ (a:Nat)/\FX (Hr e) n/\(∀g,bM e n g->g.2<8)/\(∀c,c<a->b.ops c=jm->bM e n (b.ats c,c))/\DF wr bk {b with Hg:=e,many:=n}/\Touch (λa=>a=bk) w wr)(λf _=>8-(intOf f).toNat)
 case atStart=>exact⟨0,0,b.Hg,O,O,rfl,K,(λg⟨a,J,_⟩=>O),(λc i=>O),N.out,R.out⟩
 case round=>
  obtain⟨a,n,e,J,ac,rfl,A,C,B,l,E⟩:=hrel;clear K V W;have q:=Ac A;have r:=Ac C;have o:=Ac B;have t:=Ac E;have u:=Ac l;by_cases m:a<8
  ·have t1:decide ((a:Int)<8)=jm:=decide_eq_true O;have t3:(a:Int)<8:=O;have L:=λv=>Aiy b m v
   have ad:=wk1 a O;have U:=l.cellAt a m;clear A C B E l;cases D:b.ops a with
   |false=>
    rw[D]at L
    go_wp2_with fail
    go_roundw
    case rel=>exact⟨a+1,n,e,O,O,by go_num,q.out,r.out,λc i j=>by
     by_cases d:c=a
     ·rw[d,D]at j;cases j
     ·exact o c O j,u.out,t.out⟩
    case measure=>simp[intOf];omega
   |true=>
    rw[D]at L;have y:=Ac (λv(X:Dr wr v)=>WB (b.ats a,a) (u.dr X) (by dsimp only;omega) q.out);unfold mkV at y
    dsimp only at y
    go_wp2_with fail
    go_region_held3(λw'=>w'.cell? (Δ bk a)=iC (fP ig ((b.ats a).toNat:Int)))(first|exact U|exact H.cellAt a m)
     ((first|(go_at_call 124;refine(y _ (Dr.drew _)).mono ?_;rintro d ae⟨rfl,f2,I,Y,H,M⟩)))
    all_goals(
     have S:=Ac (t.trans ((Touch.of_below ((Dr.drew wr).below _)).trans M (λ_ d=>.inl d)) (λ_ d=>.inl d));have s:=Ac I;clear M I
     go_wp2_with fail
     go_roundw)
    case rel=>exact⟨a+1,n+1,f2,O,O,by go_num,Y,λg Z=>((s g).1 Z).elim (r g) (λd=>by rw[d];exact m),λc i j=>by
     by_cases d:c=a
     ·exact(s _).2 (.inr (by rw[d]))
     ·exact(s _).2 (.inl (o c O j)),H,S.out⟩
    case measure=>simp[intOf];omega
  ·have t1:decide ((a:Int)<8)=jw:=decide_eq_false O;have ab:a=8:=O;clear A C B E l
   go_wp2_with fail
   go_end0;exact⟨rfl,e,n,O,q.out,r.out,λf aa=>o f O,u.out,t.out⟩
end
def bP{t:Wt}{i:Nat}(h:PH t=iC i):i<8/\t.ops i=jw:=by
 unfold PH at h;have a:=List.mem_of_find?_eq_some h;have b:=List.find?_some h;exact⟨GK.1 a,by simpa using b⟩
section
variable{w w':jD}{bk:Nat}{b:Bk}
def bQ(h:DF w bk b)(e:PH b.wt=none)(x:Int):Calls prog 79 #[ptr0 bk,fP ig x] w λc w'=>c=gY (gJ #[fP gZ 0,fP gZ 6])/\w=w':=by
 have a:=Ac (jE h);have d:Og b.wt= -1:=by unfold Og;rw[e]
 rw[d]at a;clear h e d;go_enter func79,ntmps79
 go_wp2_with fail
 refine a.mono ?_;rintro c f⟨rfl,rfl⟩
 go_wp2_with fail
 go_ret2;exact⟨rfl,rfl⟩
structure Opened(b b':Bk)(i:Nat)(x:UInt64):Prop where
 ats:b'.ats=MS b.ats i x
 ops:b'.ops=MS b.ops i jm
 st:b'.st=b.st
 nt:b'.nt=b.nt
 many:b.many<16->b'.many=b.many+1
 pile:UQ b'
def Aer(h:DF w bk b)(I:UQ b){i:Nat}(t:PH b.wt=iC i)(x:UInt64):
 Calls prog 79 #[ptr0 bk,fP ig (x.toNat:Int)] w λc w'=>c=gY (gJ #[fP gZ (i:Int),fP gZ 0])/\
  ∃B,Opened b B i x/\DF w' bk B/\Touch (λa=>a=bk) w w':=by
 obtain⟨e,T⟩:=bP t;have z:=Ac (jE h);have J:Og b.wt=(i:Int):=by unfold Og;rw[t]
 rw[J]at z;have V:(i:Int)<8:=O;have G:=h.frozen i;have H:=h.frozen (8+i);have C:=h.cellAt i e;have D:=h.X5 i e;have y:Hid (∀f,f=(w.setCell (Δ bk i) (fP ig (x.toNat:Int))).setCell (Δ bk (8+i)) (fU jm)\/f=(w.setCell (Δ bk (8+i)) (fU jm)).setCell (Δ bk i) (fP ig (x.toNat:Int))->
  DF f.drew bk {b with ats:=MS b.ats i x,ops:=MS b.ops i jm}/\Touch (λa=>a=bk) w f.drew):=Ac (by
  rintro f(rfl|rfl)
  ·exact⟨((h.setAt i e x).Ace i e jm).dr (Dr.drew _),(((Touch.refl (λa=>a=bk) w).setCell (p:=Δ bk i) (.inl rfl) _).setCell (p:=Δ bk (8+i)) (.inl rfl) _).drew⟩
  ·exact⟨((h.Ace i e jm).setAt i e x).dr (Dr.drew _),(((Touch.refl (λa=>a=bk) w).setCell (p:=Δ bk (8+i)) (.inl rfl) _).setCell (p:=Δ bk i) (.inl rfl) _).drew⟩)
 have k:=Ac I;have N:=Ac e;clear h t J I T;go_enter func79,ntmps79
 go_wp2_with fail
 refine z.mono ?_;rintro c X⟨rfl,rfl⟩
 go_wp2_with fail
 go_region
 all_goals(
  first
   |(obtain⟨P,d⟩:=ε (((w.setCell (Δ bk i) (fP ig (x.toNat:Int))).setCell (Δ bk (8+i)) (fU jm)).drew)
     rw[<-d];have l:=y _ (.inl rfl);rw[<-d]at l;clear d)
   |(obtain⟨P,d⟩:=ε (((w.setCell (Δ bk (8+i)) (fU jm)).setCell (Δ bk i) (fP ig (x.toNat:Int))).drew)
     rw[<-d];have l:=y _ (.inr rfl);rw[<-d]at l;clear d)
  obtain⟨g,L⟩:=l;have E:=g.Kr;have A:=Ac L;clear L;by_cases s:b.many=16
  ·have F:=Ac (zC g)
   dsimp only at E F
   have j:=Ac s;clear g G H C D
   go_wp2_with fail
   refine F.mono ?_;rintro c U⟨rfl,o,n,W,r,R,Q,q,v⟩
   go_wp2_with fail
   go_ret2;exact⟨rfl,{b with ats:=MS b.ats i x,ops:=MS b.ops i jm,Hg:=o,many:=n},⟨rfl,rfl,rfl,rfl,λh=>absurd j.out O,r,R,Q,by dsimp only;omega⟩,q,A.trans v (λ_ h=>.inl h)⟩
  ·have j:Hid (b.many<16):=Ac (Ω k.len);have m:=Ac (WB (x,i) g (by dsimp only;exact j.out) (by dsimp only;exact k.heap))
   dsimp only at E m
   unfold mkV at m;clear g G H C D
   go_wp2_with fail
   refine m.mono ?_;rintro c U⟨rfl,o,K,r,q,v⟩
   go_wp2_with fail
   go_ret2;refine⟨rfl,{b with ats:=MS b.ats i x,ops:=MS b.ops i jm,Hg:=o,many:=b.many+1},⟨rfl,rfl,rfl,rfl,λ_=>rfl,r,?_,?_,?_⟩,q,A.trans v (λ_ h=>.inl h)⟩
   ·intro M s;rcases(K M).1 s with h|rfl
    ·exact k.ids M h
    ·exact N.out
   ·intro a S u;refine(K _).2 ?_;simp only[MS]at u⊢;by_cases c:a=i
    ·rw[jM c,c];exact .inr rfl
    ·rw[ku c];rw[ku c]at u;exact .inl (k.has a S u)
   ·have:=j.out;dsimp only;omega)
structure Closed(b b':Bk)(i:Nat):Prop where
 ats:b'.ats=MS b.ats i 0
 ops:b'.ops=MS b.ops i jw
 st:b'.st=b.st
 nt:b'.nt=b.nt
 many:b'.many=b.many
 pile:UQ b'
def zD(h:DF w bk b)(n:UQ b){i:Nat}(hi:i<8)(q:b.ops i=jm):
 Calls prog 91 #[ptr0 bk,fP gZ (i:Int)] w λe w'=>e=gY (fP gZ 0)/\
  ∃m,Closed b m i/\DF w' bk m/\Touch (λa=>a=bk) w w':=by
 have l:=Ac (tu h (i:Int));have o:EY b.wt (i:Int)=jm:=by
  unfold EY;simp only[Bool.and_eq_true,decide_eq_true_eq];exact⟨O,O,q⟩
 rw[o]at l;have A:(i:Int)<8:=O;have u:=h.frozen i;have v:=h.frozen (8+i);have s:=h.cellAt i hi;have t:=h.X5 i hi;have k:Hid (∀d,d=(w.setCell (Δ bk i) (fP ig 0)).setCell (Δ bk (8+i)) (fU jw)\/d=(w.setCell (Δ bk (8+i)) (fU jw)).setCell (Δ bk i) (fP ig 0)->
  DF d.drew bk {b with ats:=MS b.ats i 0,ops:=MS b.ops i jw}/\Touch (λa=>a=bk) w d.drew):=Ac (by
  rintro d(rfl|rfl)
  ·exact⟨((h.setAt i hi 0).Ace i hi jw).dr (Dr.drew _),(((Touch.refl (λa=>a=bk) w).setCell (p:=Δ bk i) (.inl rfl) _).setCell (p:=Δ bk (8+i)) (.inl rfl) _).drew⟩
  ·exact⟨((h.Ace i hi jw).setAt i hi 0).dr (Dr.drew _),(((Touch.refl (λa=>a=bk) w).setCell (p:=Δ bk (8+i)) (.inl rfl) _).setCell (p:=Δ bk i) (.inl rfl) _).drew⟩)
 have g:=Ac n;clear h n q o;go_enter func91,ntmps91
 go_wp2_with fail
 refine l.mono ?_;rintro e B⟨rfl,rfl⟩
 go_wp2_with fail
 go_region
 all_goals(
  first
   |(obtain⟨r,c⟩:=ε (((w.setCell (Δ bk i) (fP ig 0)).setCell (Δ bk (8+i)) (fU jw)).drew)
     rw[<-c];have j:=k _ (.inl rfl);rw[<-c]at j;clear c)
   |(obtain⟨r,c⟩:=ε (((w.setCell (Δ bk (8+i)) (fU jw)).setCell (Δ bk i) (fP ig 0)).drew)
     rw[<-c];have j:=k _ (.inr rfl);rw[<-c]at j;clear c)
  obtain⟨x,z⟩:=j;clear u v s t
  go_wp2_with fail
  go_ret;refine⟨rfl,{b with ats:=MS b.ats i 0,ops:=MS b.ops i jw},⟨rfl,rfl,rfl,rfl,rfl,g.heap,g.ids,?_,g.len⟩,x,z⟩;intro a y f;simp only[MS]at f⊢;by_cases e:a=i
  ·rw[jM e]at f;exact absurd f U
  ·rw[ku e]at f⊢;exact g.has a y f)
def WC(b:Bk)(m:Mk):Bool:=b.ops m.2&&decide (b.ats m.2=m.1)
def Aes(h:DF w bk b)(m:Mk)(g:m.2<8):Calls prog 141 #[ptr0 bk,mkV m] w λf w'=>f=gY (fU (WC b m))/\η w w':=by
 have i:(m.2:Int)<8:=O;have j:=h.cellAt m.2 g;have e:=h.X5 m.2 g;have k:=h.lt;unfold mkV;cases a:b.ops m.2 with
 |false=>
  have d:Hid (WC b m=jw):=Ac (by unfold WC;rw[a];rfl);rw[a]at e;clear h a;go_enter func141,ntmps141
  go_wp2_with fail
  go_quiet(fail)
  go_wp2_with fail
  go_ret;exact⟨by rw[d.out];rfl,((Below.refl _ _).alloc (Ae _) _).trans ((Dr.one _ _).below _)⟩
 |true=>
  rw[a]at e;have d:Hid (WC b m=(((b.ats m.2).toNat:Int)==(m.1.toNat:Int))):=Ac (by
   unfold WC;rw[a,Bool.true_and];by_cases c:b.ats m.2=m.1
   ·rw[decide_eq_true c,c];exact(beq_self_eq_true _).symm
   ·rw[decide_eq_false c];exact(beq_eq_false_iff_ne.2 (λf=>c (UInt64.toNat_inj.1 O))).symm)
  clear h a;go_enter func141,ntmps141
  go_wp2_with fail
  go_quiet(fail)
  go_wp2_with fail
  go_ret;exact⟨by rw[d.out];rfl,((Below.refl _ _).alloc (Ae _) _).trans ((Dr.one _ _).below _)⟩
end
section
variable{w w':jD}{bk:Nat}{b:Bk}
structure Dropped(b b':Bk):Prop where
 ats:b'.ats=b.ats
 ops:b'.ops=b.ops
 st:b'.st=b.st
 nt:b'.nt=b.nt
 many:b'.many<=b.many
 pile:UQ b'
def Aet(h:DF w bk b)(f:UQ b)(n:Nat)(g:b.many=n+1)(a:WC b (b.Hg 0)=jw):
 Calls prog 140 #[ptr0 bk] w λe w'=>e=gY (gJ #[])/\
  ∃j,Dropped b j/\j.many=n/\DF w' bk j/\Touch (λy=>y=bk) w w':=by
 have o:=Ac (tq h n g (Ω f.len) (by have:=f.heap;rwa [g]at this));have i:=Ac f;have d:=Ac g;have m:=Ac a;clear h f g a;go_enter func140,ntmps140
 go_wp2_with fail
 refine o.mono ?_;rintro e z⟨rfl,p,q,r,t,s,x⟩
 go_wp2_with fail
 go_end0;refine⟨rfl,{b with Hg:=p,many:=n},⟨rfl,rfl,rfl,rfl,?_,t,?_,?_,?_⟩,rfl,s,x⟩
 ·have:=d.out;dsimp only;omega
 ·intro l v;exact i.ids l (d.out▸q l v)
 ·intro c u k;refine r _ (λe=>?_) (d.out▸i.has c u k);have a:=m.out;rw[<-e]at a;unfold WC at a;rw[show b.ops (b.ats c,c).2=jm from k,Bool.true_and,decide_eq_true (rfl:b.ats (b.ats c,c).2=(b.ats c,c).1)]at a;exact absurd a U
 ·have:=i.len;have:=d.out;dsimp only;omega
def zF(w:jD)(bk:Nat):Nat:=(intOf ((w.cell? (Δ bk 48)).getD undef)).toNat
def jF(h:DF w bk b):zF w bk=b.many:=by
 unfold zF;rw[h.Kr];simp[intOf]
def tC(l:Array jL)(a:jD):(callFunc 140 l).run prog a=.ok (.enter 140 l) a:=by
 simp[callFunc,func140,Tryz.f140]
def zG(h:DF w bk b)(D:UQ b)(x:UInt64):
 Calls prog 93 #[ptr0 bk,fP ig (x.toNat:Int)] w λf w'=>f=gY (fP ig ((Ii b.wt x).toNat:Int))/\
  ∃a,Dropped b a/\DF w' bk a/\Touch (λk=>k=bk) w w':=by
 have V:=λS K=>tC S K
 have C:=Ac h;have J:=Ac D;clear h D;go_enter func93,ntmps93
 go_wp2_with fail
 go_loopw [](λwr=>∃a,Dropped b a/\DF wr bk a/\Touch (λk=>k=bk) w wr)(λwr=>zF wr bk)
 case atStart=>exact⟨b,⟨rfl,rfl,rfl,rfl,Ae _,J.out⟩,C.out,Touch.refl _ _⟩
 case round=>
  obtain⟨a,p,d,F⟩:=hrel;have c:=Ac p;have y:=Ac F;have G:Hid (b.wt=a.wt):=Ac (by unfold Bk.wt;rw[p.ats,p.ops]);have o:=d.Kr;have t:=Ac d;have I:=Ac (jF d);clear p F C;cases j:a.many with
  |zero=>
   rw[j]at o;have z:Hid (Ii b.wt x=x):=Ac (by
    rw[G.out];refine zx λs A=>?_
    cases B:isOpen a.wt s with
    |false=>rfl
    |true=>
     obtain⟨k,q,_⟩:=c.pile.has s A B;rw[j]at q;exact absurd q O)
   clear d j;rw[show((0:Nat):Int)=0 from rfl]at o
   go_wp2_with fail
   go_ret;exact⟨by rw[z.out];rfl,a,c.out,t.out,y.out⟩
  |succ n=>
   rw[j,show((n+1:Nat):Int)=(n:Int)+1 by omega]at o;have t3:((n:Int)+1==0)=jw:=beq_eq_false_iff_ne.2 O;obtain⟨M,N⟩:=d.PY 0 O;have l:=Ac (Aes d (a.Hg 0) (c.pile.ids _ ⟨0,O,rfl⟩));unfold mkV at l;have m:=Ac j;clear d j;cases i:WC a (a.Hg 0)with
   |true=>
    rw[i]at l;have z:Hid (Ii b.wt x=(a.Hg 0).1):=Ac (by
     rw[G.out];have r:=i;unfold WC at r;simp only[Bool.and_eq_true,decide_eq_true_eq]at r;refine Ait ⟨(a.Hg 0).2,c.pile.ids _ ⟨0,by rw[m.out];omega,rfl⟩,r.1,r.2⟩ λs A B=>?_
     obtain⟨k,q,f⟩:=c.pile.has s A B;have:=aS c.pile.heap k q;unfold Hr at this;rw[f]at this;exact this)
    clear i
    go_wp2_with fail
    refine l.mono ?_;rintro f U⟨rfl,e⟩;have u:=Ac (t.below e);have P:=u.Kr;obtain⟨d0,d1⟩:=u.PY 0 O;rw[m.out,show((n+1:Nat):Int)=(n:Int)+1 by omega]at P;have v:=Ac e;clear e
    go_wp2_with fail
    go_ret;exact⟨by rw[z.out];rfl,a,c.out,u.out,y.trans (Touch.of_below v.out) (λ_ h=>.inl h)⟩
   |false=>
    rw[i]at l;have H:=Ac i;clear i
    go_wp2_with fail
    refine l.mono ?_;rintro f U⟨rfl,e⟩;have T:=Ac (Aet (t.below e) c.pile n m.out H.out);have v:=Ac e;clear e o M N
    go_wp2_with fail
    refine T.mono ?_;rintro f W⟨rfl,L,g,Q,E,R⟩
    go_wp2_with fail
    go_roundw
    case rel=>exact⟨L,⟨g.ats.trans c.ats,g.ops.trans c.ops,g.st.trans c.st,g.nt.trans c.nt,Nat.le_trans g.many c.many,g.pile⟩,E,(y.trans (Touch.of_below v.out) (λ_ h=>.inl h)).trans R (λ_ h=>.inl h)⟩
    case measure=>rw[I.out,m.out,jF E,Q];omega
end
