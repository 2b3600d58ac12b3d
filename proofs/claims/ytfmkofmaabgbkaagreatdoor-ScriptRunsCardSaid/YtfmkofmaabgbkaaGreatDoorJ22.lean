import Derived.Test.YtfmkofmaabgbkaaGreatDoorJ15
import Derived.Test.YtfmkofmaabgbkaaGreatDoorJ21
set_option linter.defProp false
set_option maxHeartbeats 32000000
set_option maxRecDepth 100000
open Nat renaming lt_of_lt_of_le->Be
open List renaming getElem?_cons_zero->Ag,getElem?_cons_succ->Am
open Go.Lib renaming hid->Ac
open Go.Value renaming int->fP,bool->fU
open Go.Ending renaming returned->gY
open Go.IntKind renaming i64->gZ
open Go renaming World->jD,Value->jL
namespace Go.Proofs.YtfmkofmaabgbkaaGreatDoor
open Go.RowKit
open Go.Proofs.Tryz
def Cc(d p x tt:Nat)(slot:UInt64)(jv:jL)(id:Int)(sv:jL)(st:UInt64):List jL:=
 [ptr0 d,ptr0 p,ptr0 x,ptr0 tt,fP .u64 (slot.toNat:Int),jv,fP gZ id,sv,fP .u64 (st.toNat:Int)]
structure BK(m:Dq)(w:jD)(g d p x tt bk L:Nat)(s:St)(b:Bk)(t:Tb)(F J:Nat->Prop)(slot:UInt64)(jv:jL)(id:Int)(sv:jL)(st:UInt64):Prop where
 ix:J6 m w x d p L s F
 tb:Ht w (λk=>F k\/J k) tt bk b t
 jg:J g
 jl:∀k,J k->k<w.heap.size
 box:CB w g 77 (Cc d p x tt slot jv id sv st)
 fg:¬F g
 g1:g≠tt
 g2:g≠bk
 g3:g≠b.nt
 g4:g≠x
 x1:x≠bk
 x2:x≠b.nt
 c1:bk≠0/\bk≠1
 c2:b.nt≠0/\b.nt≠1
 c3:g≠0/\g≠1
abbrev uS:=BK (.up M0)
section
variable{m0:Dq}{w w':jD}{g d p x tt bk L:Nat}{s:St}{b:Bk}{t:Tb}{F J:Nat->Prop}{slot:UInt64}{jv:jL}{id:Int}{sv:jL}{st:UInt64}
def BK.below(h:BK m0 w g d p x tt bk L s b t F J slot jv id sv st)(k:η w w'):BK m0 w' g d p x tt bk L s b t F J slot jv id sv st:=
 ⟨h.ix.below k,h.tb.below k,h.jg,λe a=>Be (h.jl e a) k.size,h.box.ξ k,h.fg,h.g1,h.g2,h.g3,h.g4,h.x1,h.x2,h.c1,h.c2,h.c3⟩
def BK.book(h:BK m0 w g d p x tt bk L s b t F J slot jv id sv st){e:Bk}{i:Tb}(j:Ht w' (λk=>F k\/J k) tt bk e i)(f:e.nt=b.nt)(k:Touch (λk=>k=bk) w w'):BK m0 w' g d p x tt bk L s e i F J slot jv id sv st:=
 ⟨⟨h.ix.sys.keep k (λo l a=>h.tb.fb (a▸.inl l)) (λa=>h.c1.1 a.symm) (λa=>h.c1.2 a.symm),h.ix.box.touch k h.x1,h.ix.out⟩,j,h.jg,λn m=>Be (h.jl n m) k.size,h.box.touch k h.g2,h.fg,h.g1,h.g2,by rw[f];exact h.g3,h.g4,h.x1,by rw[f];exact h.x2,h.c1,by rw[f];exact h.c2,h.c3⟩
def Qb(h:BK m0 w g d p x tt bk L s b t F J slot jv id sv st):Calls prog 30 #[ptr0 g] w λe w'=>e=gY (fU false)/\w=w':=by
 have a:=h.box.cell 0;unfold Cc at a;simp only[Ag]at a;clear h;go_enter func30,ntmps30;go_wp2;go_ret;exact⟨rfl,rfl⟩
def egSlot(h:BK m0 w g d p x tt bk L s b t F J slot jv id sv st):Calls prog 10 #[ptr0 g] w λe w'=>e=gY (fP .u64 (slot.toNat:Int))/\w=w':=by
 have a:=h.box.cell 4;unfold Cc at a;simp only[Ag,Am]at a;have f:=Ac (Qb h);clear h;go_enter func10,ntmps10
 go_wp2_with fail
 refine f.mono ?_;rintro e i⟨rfl,rfl⟩
 go_wp2_with fail
 go_ret;exact⟨rfl,rfl⟩
def Y3(h:BK m0 w g d p x tt bk L s b t F J slot jv id sv st)(i:Int):Calls prog 42 #[ptr0 g,fP gZ i] w λe w'=>e=gY (fP gZ (if EY t.wt i=true then 0 else 2))/\w=w':=by
 have k:=h.box.cell 3;unfold Cc at k;simp only[Ag,Am]at k;have j:=Ac (Qb h);have a:=Ac (uo h.tb i);unfold atV at a;clear h;cases l:EY t.wt i with
 |false=>
  rw[l,ku Bool.false_ne_true]at a;go_enter func42,ntmps42
  go_wp2_with fail
  refine j.mono ?_;rintro e f⟨rfl,rfl⟩
  go_wp2_with fail
  refine a.mono ?_;rintro e f⟨rfl,rfl⟩
  go_wp2_with fail
  go_ret;exact⟨rfl,rfl⟩
 |true=>
  rw[l,jM rfl]at a;go_enter func42,ntmps42
  go_wp2_with fail
  refine j.mono ?_;rintro e f⟨rfl,rfl⟩
  go_wp2_with fail
  refine a.mono ?_;rintro e f⟨rfl,rfl⟩
  go_wp2_with fail
  go_ret;exact⟨rfl,rfl⟩
def Aqu(h:BK m0 w g d p x tt bk L s b t F J slot .nilIface id sv st):Calls prog 51 #[ptr0 g] w λe w'=>e=gY (fU false)/\w=w':=by
 have a:=h.box.cell 5;unfold Cc at a;simp only[Ag,Am]at a;clear h;go_enter func51,ntmps51
 go_wp2_with fail
 go_ret;exact⟨rfl,rfl⟩
end
section
variable{m0:Dq}{w w':jD}{g d p x tt bk L:Nat}{s:St}{b:Bk}{t:Tb}{F J:Nat->Prop}{slot:UInt64}{jv:jL}{id:Int}{sv:jL}{st:UInt64}
def OnV(jv:jL)(id:Int):Option Nat->Prop
 |none=>jv=.nilIface
 |some a=>id=(a:Int)/\∃jb,jv=.iface 118 (ptr0 jb)
def Un(h:BK m0 w g d p x tt bk L s b t F J slot jv id sv st){o:Option Nat}(f:OnV jv id o):Calls prog 51 #[ptr0 g] w λa w'=>a=gY (fU o.isSome)/\w=w':=by
 have e:=h.box.cell 5;unfold Cc at e;simp only[Ag,Am]at e;clear h;cases o with
 |none=>
  have a:jv=.nilIface:=f;subst a;go_enter func51,ntmps51
  go_wp2_with fail
  go_ret;exact⟨rfl,rfl⟩
 |some i=>
  obtain⟨_,jb,rfl⟩:=f;go_enter func51,ntmps51
  go_wp2_with fail
  go_ret;exact⟨rfl,rfl⟩
def SA(t:Wt)(o:Option Nat)(i:Int):Int:=if EY t i=true then(match o with|some a=>if(a:Int)=i then 11 else 0|none=>0)else 2
def Zo(h:BK m0 w g d p x tt bk L s b t F J slot jv id sv st){o:Option Nat}(q:OnV jv id o)(i:Int):Calls prog 56 #[ptr0 g,fP gZ i] w λa w'=>a=gY (fP gZ (SA t.wt o i))/\w=w':=by
 have e:=Ac (Y3 h i);have k:=Ac (Un h q);have m:=h.box.cell 6;unfold Cc at m;simp only[Ag,Am]at m;unfold SA;clear h;cases n:EY t.wt i with
 |false=>
  rw[n,ku Bool.false_ne_true]at e;go_enter func56,ntmps56
  go_wp2_with fail
  refine e.mono ?_;rintro a j⟨rfl,rfl⟩
  go_wp2_with fail
  go_ret;exact⟨rfl,rfl⟩
 |true=>
  rw[n,jM rfl]at e;cases o with
  |none=>
   go_enter func56,ntmps56
   go_wp2_with fail
   refine e.mono ?_;rintro a j⟨rfl,rfl⟩
   go_wp2_with fail
   refine k.mono ?_;rintro a j⟨rfl,rfl⟩
   go_wp2_with fail
   go_ret;exact⟨rfl,rfl⟩
  |some l=>
   obtain⟨rfl,-⟩:=q;by_cases f:(l:Int)=i
   ·have r:((l:Int)==i)=true:=by rw[f];exact beq_self_eq_true i
    simp only[if_true,jM f];clear f;go_enter func56,ntmps56
    go_wp2_with fail
    refine e.mono ?_;rintro a j⟨rfl,rfl⟩
    go_wp2_with fail
    refine k.mono ?_;rintro a j⟨rfl,rfl⟩
    go_wp2_with fail
    go_ret;exact⟨rfl,rfl⟩
   ·have r:((l:Int)==i)=false:=beq_eq_false_iff_ne.2 f;simp only[if_true,ku f];clear f;go_enter func56,ntmps56
    go_wp2_with fail
    refine e.mono ?_;rintro a j⟨rfl,rfl⟩
    go_wp2_with fail
    refine k.mono ?_;rintro a j⟨rfl,rfl⟩
    go_wp2_with fail
    go_ret;exact⟨rfl,rfl⟩
def Anj(h:BK m0 w g d p x tt bk L s b t F J slot jv id sv st){i:Nat}(n:PH t.wt=some i):
 Calls prog 21 #[ptr0 g] w λe w'=>e=gY (.tuple #[fP gZ (i:Int),fP gZ 0])/\
  ∃j,(b.many<16->j.many=b.many+1)/\j.nt=b.nt/\j.st i=.slice none 0 0/\BK m0 w' g d p x tt bk L s j (nS t i slot) F J slot jv id sv st/\Touch (λa=>a=bk) w w':=by
 have k:=h.box.cell 3;have l:=h.box.cell 4;unfold Cc at k l;simp only[Ag,Am]at k l;have y:=Ac (Qb h);have r:=Ac (λz(a:η w z)=>Ajc (h.tb.below a) n slot);have v:Hid (∀f,Touch (λa=>a=bk) w f->f.cell? (Δ g 3)=some (ptr0 tt)/\f.cell? (Δ g 4)=some (fP .u64 (slot.toNat:Int))):=Ac (λf a=>⟨(h.box.touch a h.g2).cell 3,(h.box.touch a h.g2).cell 4⟩);have u:=Ac h;clear h n;go_enter func21,ntmps21
 go_wp2_with fail
 refine y.mono ?_;rintro e G⟨rfl,rfl⟩
 go_wp2_with fail
 go_region_held3(λw'=>w'.cell? (Δ g 3)=some (ptr0 tt)/\w'.cell? (Δ g 4)=some (fP .u64 (slot.toNat:Int)))
  (first|exact⟨k,l⟩|exact v _ ((Touch.of_below ((Dr.drew w).below _)).trans o (λ_ e=>.inl e)))
  ((first|(go_at_call 40;refine(r _ ((Dr.drew w).below _)).mono ?_;rintro e E⟨rfl,A,C,m,D,B,o⟩)))
 all_goals(go_wp2_with fail)
 all_goals(go_ret2)
 all_goals(
  have q:Touch (λa=>a=bk) w E:=(Touch.of_below ((Dr.drew w).below _)).trans o (λ_ e=>.inl e);exact⟨rfl,A,C,m,D,u.book B m q,q⟩)
def o5(h:BK m0 w g d p x tt bk L s b t F J slot jv id sv st)(l:PH t.wt=none):
 Calls prog 21 #[ptr0 g] w λj w'=>j=gY (.tuple #[fP gZ 0,fP gZ 6])/\η w w':=by
 have f:=h.box.cell 3;have i:=h.box.cell 4;unfold Cc at f i;simp only[Ag,Am]at f i;have o:=Ac (Qb h);have m:=Ac (λq(e:η w q)=>ik (h.tb.below e) l slot.toNat);have n:Hid (∀a,η w a->a.cell? (Δ g 3)=some (ptr0 tt)/\a.cell? (Δ g 4)=some (fP .u64 (slot.toNat:Int))):=Ac (λa e=>⟨(h.box.ξ e).cell 3,(h.box.ξ e).cell 4⟩);clear h l;go_enter func21,ntmps21
 go_wp2_with fail
 refine o.mono ?_;rintro j r⟨rfl,rfl⟩
 go_wp2_with fail
 go_region_held3(λw'=>w'.cell? (Δ g 3)=some (ptr0 tt)/\w'.cell? (Δ g 4)=some (fP .u64 (slot.toNat:Int)))
  (first|exact⟨f,i⟩|exact n _ k)
  ((first|(go_at_call 40;have k:η w w.drew:=(Dr.drew w).below _;refine(m _ k).mono ?_;rintro j u⟨rfl,rfl⟩)))
 all_goals(go_wp2_with fail)
 all_goals(go_ret2)
 all_goals(exact⟨rfl,(Dr.drew w).below _⟩)
end
section
variable{w w':jD}{g d p x tt bk L:Nat}{s:St}{b:Bk}{t:Tb}{F J:Nat->Prop}{slot:UInt64}{jv:jL}{id:Int}{sv:jL}{st:UInt64}
end
section
variable{w w':jD}{g d p x tt bk L:Nat}{s:St}{b:Bk}{t:Tb}{F J:Nat->Prop}{slot:UInt64}{jv:jL}{id:Int}{sv:jL}{st:UInt64}
def EF(F J:Nat->Prop)(bk a jb:Nat)(k:Nat):Prop:=F k\/J k\/k=bk\/k=a\/k=jb
end
def dK(f:Nat)(a:Addr)(w:jD):(method (f+1) 118 (.pointer (some a)) "Step").run prog w=.ok (256,.pointer (some a)) w:=by kernel_rfl
section
variable{m0:Dq}{w w':jD}{g d p x tt bk L:Nat}{s s2:St}{b:Bk}{t:Tb}{F J:Nat->Prop}{slot:UInt64}{jv:jL}{id:Int}{sv:jL}{st:UInt64}{jb:Nat}
def Ajs(h:BK m0 w g d p x tt bk L s b t F J slot (.iface 118 (ptr0 jb)) id sv st):Calls prog 51 #[ptr0 g] w λe w'=>e=gY (fU true)/\w=w':=by
 have a:=h.box.cell 5;unfold Cc at a;simp only[Ag,Am]at a;clear h;go_enter func51,ntmps51
 go_wp2_with fail
 go_ret;exact⟨rfl,rfl⟩
def Aqv(h:BK m0 w g d p x tt bk L s b t F J slot (.iface 118 (ptr0 jb)) id sv st)(R:jD->Prop){G:Nat->Prop}(q:∀z,G z->z<w.heap.size)
 (u:∀a,η w a->Calls prog 256 #[ptr0 jb] a λe w'=>e=gY (.tuple #[fU false,fP gZ 0])/\R w'/\Touch G a w')(N:∃f k i,sv=.slice f k i):
 Calls prog 27 #[ptr0 g] w λe w'=>e=gY (.tuple #[fP gZ id,fU false,fP gZ 0])/\R w':=by
 have T:=λK a=>dK K (Φ jb) a
 obtain⟨f,k,i,rfl⟩:=N;have E:=Ac (Qb h);have A:=Ac (Ajs h);have D:=Ac u;have l:=h.box.cell 5;have m:=h.box.cell 6;have n:=h.box.cell 7;have o:=h.box.cell 8;unfold Cc at l m n o;simp only[Ag,Am]at l m n o;obtain⟨a,j⟩:=ε (w.alloc (.cells #[.iface 118 (ptr0 jb),fP gZ id,.slice f k i,fP .u64 (st.toNat:Int)] 75));have P:Hid (CB a w.heap.size 75 [.iface 118 (ptr0 jb),fP gZ id,.slice f k i,fP .u64 (st.toNat:Int)]):=Ac (j▸heap_alloc_new _ _);have B:Hid (η w a):=Ac (j▸(Below.refl _ _).alloc (Nat.le_refl _) _);have I:=Ac j;have C:Hid (¬G w.heap.size):=Ac (λM=>absurd (q _ M) O1);clear h u j q;go_enter func27,ntmps27
 go_wp2_with fail
 refine E.mono ?_;rintro e Q⟨rfl,rfl⟩
 go_wp2_with fail
 refine A.mono ?_;rintro e Q⟨rfl,rfl⟩
 go_wp2_with fail
 rw[<-I.out];refine(D a B.out).mono ?_;rintro e U⟨rfl,r,y⟩;have S:=(P.touch y C.out).cell 1;simp only[Ag,Am]at S;have H:=Ac r;clear r y l m n o
 go_wp2_with fail
 refine bodyPost_ret (v:=.tuple #[fP gZ id,fU false,fP gZ 0]) (by simp[results,results27,go_sem]) rfl ?_;exact⟨rfl,H.out⟩
end
section
variable{w w':jD}{g d p x tt bk L:Nat}{s:St}{b:Bk}{t:Tb}{F J:Nat->Prop}{slot:UInt64}{jv:jL}{id:Int}{sv:jL}{st:UInt64}
end
section
variable{w w':jD}{g d p x tt bk L:Nat}{s:St}{b:Bk}{t:Tb}{F J:Nat->Prop}{slot:UInt64}{jv:jL}{id:Int}{sv:jL}{st:UInt64}
end
section
variable{w w':jD}{g d p x tt bk L:Nat}{s:St}{b:Bk}{t:Tb}{F J:Nat->Prop}{slot:UInt64}{jv:jL}{id:Int}{sv:jL}{st:UInt64}
end
section
variable{w w':jD}{g d p x tt bk L:Nat}{s:St}{b:Bk}{t:Tb}{F J:Nat->Prop}{slot:UInt64}{jv:jL}{id:Int}{sv:jL}{st:UInt64}
end
section
variable{w w':jD}{g d p x tt bk L:Nat}{s:St}{b:Bk}{t:Tb}{F J:Nat->Prop}{slot:UInt64}{jv:jL}{id:Int}{sv:jL}{st:UInt64}
def EE.all(h:Sys w d p L s F):Calls prog 31 #[ptr0 p] w λb w'=>∃a,b=gY a/\w'.ownsRow w.heap.size 3 1 a (allP s).length (qg (allP s))/\η w w':=by
 obtain⟨j,g,i,f,e,own,h,_⟩:=h;exact tN h.at
def egBlocks(h:uS w g d p x tt bk L s b t F J slot jv id sv st):Calls prog 11 #[ptr0 g] w λe w'=>∃a,e=gY a/\w'.ownsRow w.heap.size 3 1 a (allP s).length (qg (allP s))/\η w w':=by
 have f:=h.box.cell 1;unfold Cc at f;simp only[Ag,Am]at f;have m:=Ac (Qb h);have k:=Ac h.ix.sys.all;clear h;go_enter func11,ntmps11
 go_wp2_with fail
 refine m.mono ?_;rintro e o⟨rfl,rfl⟩
 go_wp2_with fail
 refine k.mono ?_;rintro e o⟨a,rfl,j,i⟩;have n:=Ac j;have l:=Ac i;clear j i
 go_wp2_with fail
 go_ret;exact⟨a,rfl,n.out,l.out⟩
end
section
variable{w w':jD}{g d p x tt bk L:Nat}{s s2:St}{b:Bk}{t:Tb}{F c J:Nat->Prop}{slot:UInt64}{jv:jL}{id:Int}{sv:jL}{st:UInt64}{jb:Nat}
end
