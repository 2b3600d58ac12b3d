import Derived.Test.YtfmkofmaabgbkaaGreatDoorJ14
import Derived.Test.YtfmkofmaabgbkaaGreatDoorJ22
import Derived.Test.YtfmkofmaabgbkaaGreatDoorJ32
set_option linter.defProp false
set_option maxHeartbeats 32000000
set_option maxRecDepth 100000
open Nat renaming lt_of_lt_of_le->Be
open Go.Lib renaming hid->Ac
open List renaming getElem?_cons_zero->Ag,getElem?_cons_succ->Am
open Go.Value renaming int->fP,string->fQ
open Go.Ending renaming returned->gY
open Go.IntKind renaming i64->gZ
namespace Go.Proofs.YtfmkofmaabgbkaaGreatDoor
open Go.RowKit
open Go.Proofs.Tryz
section
variable{w w':World}{g d p x tt bk L:Nat}{s s2:St}{b:Bk}{t:Tb}{F a J:Nat->Prop}{slot:UInt64}{jv:Value}{id:Int}{sv:Value}{st:UInt64}{c:Nat}
def BK.set{m0:Dq}(h:BK m0 w g d p x tt bk L s b t F J slot jv id sv st){i:UInt64}{l:Value}{j:Int}{n:Value}{m:UInt64}(k:Touch (λk=>k=g) w w')(q:CB w' g 77 (Cc d p x tt i l j n m)):BK m0 w' g d p x tt bk L s b t F J i l j n m:=
 ⟨⟨h.ix.sys.keep k (λo r f=>h.fg (f▸r)) (λf=>h.c3.1 f.symm) (λf=>h.c3.2 f.symm),h.ix.box.touch k (λf=>h.g4 f.symm),h.ix.out⟩,h.tb.moved ⟨k.mono (λo f=>Or.inr (by rw[f];exact h.jg)),λ_ v=>.inl v⟩,h.jg,λy u=>Be (h.jl y u) k.size,q,h.fg,h.g1,h.g2,h.g3,h.g4,h.x1,h.x2,h.c1,h.c2,h.c3⟩
def BK.FZ{m0:Dq}(h:BK m0 w g d p x tt bk L s b t F J slot jv id sv st){i:Tb}(j:Ht w' (λk=>F k\/J k) tt bk b i)(k:Touch (λk=>k=b.nt) w w'):BK m0 w' g d p x tt bk L s b i F J slot jv id sv st:=
 ⟨⟨h.ix.sys.keep k (λ_ l f=>h.tb.fn (f▸.inl l)) (λf=>h.c2.1 f.symm) (λf=>h.c2.2 f.symm),h.ix.box.touch k h.x2,h.ix.out⟩,j,h.jg,λn m=>Be (h.jl n m) k.size,h.box.touch k h.g3,h.fg,h.g1,h.g2,h.g3,h.g4,h.x1,h.x2,h.c1,h.c2,h.c3⟩
end
section
variable{w w':World}{g d p x tt bk L:Nat}{s:St}{b:Bk}{t:Tb}{F J:Nat->Prop}{slot:UInt64}{jv:Value}{id:Int}{sv:Value}{st:UInt64}
end
def wI{w:World}{G:Nat->Prop}{v:Value}{s:List Wr}(h:FI w G v s)(d:s.length<=16)(x:Wr)(b:x.key.size<=4294967296)(f:x.text.size<=4294967296)(j:WA s):
 Calls prog 125 #[v,OU x] w λl w'=>∃k,l=gY (.tuple #[k,fP gZ (Ip s x).2])/\w'.ownsRow w.heap.size 100 3 k (Ip s x).1.length (Gf (Ip s x).1)/\η w w':=by
 cases g:Du x with
 |false=>exact vZ h d x b f g
 |true=>
  cases i:jA s x.key with
  |true=>exact wo h d x b f g j i
  |false=>
   by_cases m:16<=s.length
   ·exact pg h d x b f g j i m
   ·exact wu h d x b f g j i O1
def Agj(s:List Wr)(x:Wr):(Ip s x).2=0\/(Ip s x).2=2\/(Ip s x).2=3:=by
 unfold Ip
 repeat' split
 all_goals simp
section
variable{w w':World}{F e:Nat->Prop}{tt bk:Nat}{b:Bk}{t:Tb}
def YG(h:Ht w F tt bk b t){i:Nat}(hi:i<8)(H:t.wt.ops i=true)(x:Wr){l:Int}(G:l=2\/l=3)
 (A:∀g,η w g->Calls prog 125 #[b.st i,OU x] g λd w'=>∃C J j,d=gY (.tuple #[.slice C J j,fP gZ l])/\η g w'):
 Calls prog 80 #[ptr0 tt,fP gZ (i:Int),OU x] w λd w'=>d=gY (fP gZ l)/\η w w':=by
 obtain⟨g,q,r,y⟩:=newB w 100 [fQ x.key,fQ x.text,.bool x.gone];have f:Ht g F tt bk b t:=h.below r;obtain⟨s,u,v⟩:=y.p3;have z:=Ac (PK f);have n:=Ac (nP f.book (i:Int));rw[f.wt,QD hi H]at n;have j:=f.box.p1;have m:=f.book.cellSt i hi;have N:(i:Int)<8:=O1;have k:=Ac r;have D:=Ac q;have o:=Ac A;obtain⟨B,I⟩:∃B,b.st i=B:=⟨_,rfl⟩;rw[I]at o m;rw[q]at s u v j m;unfold OU at o⊢;clear h f r q A y;rcases G with rfl|rfl
 all_goals(
  go_enter func80,ntmps80
  go_wp2_with fail
  rw[<-D.out]at s u v j m⊢;refine z.mono ?_;rintro d K⟨rfl,rfl⟩
  go_wp2_with fail
  refine n.mono ?_;rintro d K⟨rfl,rfl⟩
  go_wp2_with fail
  go_region_with(go_at_call 125;refine(o _ (by first|exact k.out|exact τ k.out ((Dr.drew _).below _))).mono ?_;rintro d L⟨M,Q,P,rfl,p⟩))
 all_goals(
  have E:Hid (η w L):=Ac (by
   first
   |exact τ k.out p
   |exact τ k.out (((Dr.drew _).below _).trans p))
  clear p s u v j m z n
  go_wp2_with fail
  go_ret;exact⟨rfl,E.out⟩)
end
def wrT(t:Tb)(i:Nat)(y:Wr):Tb:=if(Ip (t.sets i) y).2=0 then writeT t i (Ip (t.sets i) y).1 else t
section
variable{w w':World}{F e:Nat->Prop}{tt bk:Nat}{b:Bk}{t:Tb}
def pG(h:Ht w F tt bk b t)(A:∀n,F n->n<w.heap.size){i:Nat}(hi:i<8)(r:t.wt.ops i=true)(v:(t.sets i).length<=16)(z:WA (t.sets i))(x:Wr)(u:x.key.size<=4294967296)(y:x.text.size<=4294967296):
 Calls prog 80 #[ptr0 tt,fP gZ (i:Int),OU x] w λk w'=>k=gY (fP gZ (Ip (t.sets i) x).2)/\
  ∃p,p.many=b.many/\p.nt=b.nt/\Ht w' F tt bk p (wrT t i x)/\Touch (λn=>n=bk) w w':=by
 have l:=λg(j:η w g)=>wI ((h.sets i hi).below j) v x u y z
 rcases Agj (t.sets i) x with f|f|f
 ·rw[f]at l;unfold wrT;rw[jM f,f];exact Aje h A hi r x _ (λg j=>(l g j).mono (by rintro k w'⟨s,rfl,m,d⟩;exact⟨s,rfl,m,d⟩))
 ·rw[f]at l;unfold wrT;rw[ku (by rw[f];decide),f];refine(YG h hi r x (.inl rfl) (λg j=>(l g j).mono ?_)).mono ?_
  ·rintro k w'⟨s,rfl,m,d⟩;obtain⟨o,q,rfl,_⟩:=own_rowk m;exact⟨o,_,q,rfl,d⟩
  ·rintro k w'⟨rfl,d⟩;exact⟨rfl,b,rfl,rfl,h.below d,Touch.of_below d⟩
 ·rw[f]at l;unfold wrT;rw[ku (by rw[f];decide),f];refine(YG h hi r x (.inr rfl) (λg j=>(l g j).mono ?_)).mono ?_
  ·rintro k w'⟨s,rfl,m,d⟩;obtain⟨o,q,rfl,_⟩:=own_rowk m;exact⟨o,_,q,rfl,d⟩
  ·rintro k w'⟨rfl,d⟩;exact⟨rfl,b,rfl,rfl,h.below d,Touch.of_below d⟩
end
section
variable{m0:Dq}{w w':World}{g d p x tt bk L:Nat}{s:St}{b:Bk}{t:Tb}{F J:Nat->Prop}{slot:UInt64}{jv:Value}{id:Int}{sv:Value}{st:UInt64}
def VC{t:Wt}{i:Nat}(hi:i<8)(b:t.ops i=true):EY t (i:Int)=true:=by
 unfold EY;simp only[Bool.and_eq_true,decide_eq_true_eq];exact⟨O1,O1,b⟩
def wJ(h:BK m0 w g d p x tt bk L s b t F J slot jv id sv st){o:Option Nat}(I:OnV jv id o){i:Nat}(G:SA t.wt o (i:Int)=0)(hi:i<8)(X:t.wt.ops i=true)(Y:(t.sets i).length<=16)(aa:WA (t.sets i))(y:Wr)(V:y.key.size<=4294967296)(Z:y.text.size<=4294967296):
 Calls prog 41 #[ptr0 g,fP gZ (i:Int),OU y] w λj w'=>j=gY (fP gZ (Ip (t.sets i) y).2)/\
  ∃r,r.many=b.many/\r.nt=b.nt/\BK m0 w' g d p x tt bk L s r (wrT t i y) F J slot jv id sv st/\Touch (λf=>f=bk) w w':=by
 obtain⟨m,D,v,n⟩:=newB w 100 [fQ y.key,fQ y.text,.bool y.gone];have l:=h.below v;have A:=Ac (Zo l I (i:Int));rw[G]at A;have q:=Ac (λk(f:η m k)=>pG (l.tb.below f) (λB T=>T.elim ((l.ix.below f).sys.lt B) (λU=>Be (l.jl B U) f.size)) hi X Y aa y V Z);obtain⟨C,E⟩:∃C,(Ip (t.sets i) y).2=C:=⟨_,rfl⟩;rw[E]at q⊢;unfold OU at q⊢;have u:=l.box.cell 3;unfold Cc at u;simp only[Ag,Am]at u;obtain⟨ac,ad,ae⟩:=n.p3;have O1:Hid (∀k,Touch (λf=>f=bk) m k->k.cell? (Δ g 3)=some (ptr0 tt)/\k.cell? (Φ w.heap.size)=some (fQ y.key)/\k.cell? (Δ w.heap.size 1)=some (fQ y.text)/\k.cell? (Δ w.heap.size 2)=some (.bool y.gone)):=Ac (λk f=>
  have z:¬w.heap.size=bk:=Ω h.tb.book.lt
  ⟨(l.box.touch f h.g2).cell 3,(n.touch f z).cell 0,(n.touch f z).cell 1,(n.touch f z).cell 2⟩)
 have N:=Ac l;have P:=Ac D;have Q:=Ac v;clear h l v D n E I G;go_enter func41,ntmps41
 go_wp2_with fail
 rw[<-P.out];refine A.mono ?_;rintro j ah⟨rfl,rfl⟩
 go_wp2_with fail
 go_region_held3(λw'=>w'.cell? (Δ g 3)=some (ptr0 tt)/\w'.cell? (Φ w.heap.size)=some (fQ y.key)/\w'.cell? (Δ w.heap.size 1)=some (fQ y.text)/\w'.cell? (Δ w.heap.size 2)=some (.bool y.gone))
  (first|exact⟨u,ac,ad,ae⟩|exact O1 _ ((Touch.of_below ((Dr.drew m).below _)).trans K (λ_ j=>.inl j)))
  ((first|(go_at_call 80;refine(q _ ((Dr.drew m).below _)).mono ?_;rintro j ab⟨rfl,R,W,H,S,K⟩)))
 all_goals(go_wp2_with fail)
 all_goals(go_ret)
 all_goals(
  have M:Touch (λf=>f=bk) m ab:=(Touch.of_below ((Dr.drew m).below _)).trans K (λ_ j=>.inl j);exact⟨rfl,R,W,H,N.book S H M,(Touch.of_below Q.out).trans M (λ_ j=>.inl j)⟩)
def Akr{i:Int}{m n:ByteArray}{j:Int}{f:World->Prop}(l:Calls prog 41 #[ptr0 g,fP gZ i,OU ⟨m,n,false⟩] w λb w'=>b=gY (fP gZ j)/\f w'):
 Calls prog 22 #[ptr0 g,fP gZ i,fQ m,fQ n] w λb w'=>b=gY (fP gZ j)/\f w':=by
 have d:=Ac l;unfold OU at d;clear l;go_enter func22,ntmps22
 go_wp2_with fail
 refine d.mono ?_;rintro b p⟨rfl,k⟩;have o:=Ac k;clear k d
 go_wp2_with fail
 go_ret;exact⟨rfl,o.out⟩
def Aks{i:Int}{m:ByteArray}{j:Int}{f:World->Prop}(l:Calls prog 41 #[ptr0 g,fP gZ i,OU ⟨m,⟨#[]⟩,true⟩] w λb w'=>b=gY (fP gZ j)/\f w'):
 Calls prog 23 #[ptr0 g,fP gZ i,fQ m] w λb w'=>b=gY (fP gZ j)/\f w':=by
 have d:=Ac l;unfold OU at d;clear l;go_enter func23,ntmps23
 go_wp2_with fail
 refine d.mono ?_;rintro b o⟨rfl,k⟩;have n:=Ac k;clear k d
 go_wp2_with fail
 go_ret;exact⟨rfl,n.out⟩
def Aa9(h:BK m0 w g d p x tt bk L s b t F J slot jv id sv st){o:Option Nat}(q:OnV jv id o){i:Int}(j:SA t.wt o i≠0)(y:Wr):
 Calls prog 41 #[ptr0 g,fP gZ i,OU y] w λl w'=>l=gY (fP gZ (SA t.wt o i))/\η w w':=by
 obtain⟨A,m,f,r⟩:=newB w 100 [fQ y.key,fQ y.text,.bool y.gone];have k:=Ac (Zo (h.below f) q i);obtain⟨z,n⟩:=ε (SA t.wt o i);rw[<-n]at k j⊢;have t1:(z==0)=false:=beq_eq_false_iff_ne.2 j;have u:=Ac m;have v:=Ac f;unfold OU;clear h f m r q j n;go_enter func41,ntmps41
 go_wp2_with fail
 rw[<-u.out];refine k.mono ?_;rintro l B⟨rfl,rfl⟩
 go_wp2_with fail
 go_ret;exact⟨rfl,v.out⟩
def Aoc(h:BK m0 w g d p x tt bk L s b t F J slot jv id sv st){o:Option Nat}(r:OnV jv id o){i:Nat}(n:SA t.wt o (i:Int)=0)(hi:i<8)(D:t.wt.ops i=true):
 Calls prog 28 #[ptr0 g,fP gZ (i:Int)] w λj w'=>j=gY (fP gZ 0)/\
  ∃f,f.many=b.many/\f.nt=b.nt/\BK m0 w' g d p x tt bk L s f (Oh t i) F J slot jv id sv st/\Touch (λk=>k=bk) w w':=by
 have l:=Ac (Zo h r (i:Int));rw[n]at l;have y:=Ac (λz(k:η w z)=>zX (h.tb.below k) hi D);have m:=h.box.cell 3;unfold Cc at m;simp only[Ag,Am]at m;have v:=Ac h;clear h r n;go_enter func28,ntmps28
 go_wp2_with fail
 refine l.mono ?_;rintro j E⟨rfl,rfl⟩
 go_wp2_with fail
 refine(y _ (Below.refl _ _)).mono ?_;rintro j G⟨rfl,A,C,q,B,u⟩
 go_wp2_with fail
 go_ret;exact⟨rfl,A,C,q,v.book B q u,u⟩
def Aba(h:BK m0 w g d p x tt bk L s b t F J slot jv id sv st){o:Option Nat}(m:OnV jv id o){i:Int}(f:SA t.wt o i≠0):
 Calls prog 28 #[ptr0 g,fP gZ i] w λk w'=>k=gY (fP gZ (SA t.wt o i))/\w=w':=by
 have j:=Ac (Zo h m i);obtain⟨n,l⟩:=ε (SA t.wt o i);rw[<-l]at j f⊢;have t1:(n==0)=false:=beq_eq_false_iff_ne.2 f;clear h m l f;go_enter func28,ntmps28
 go_wp2_with fail
 refine j.mono ?_;rintro k q⟨rfl,rfl⟩
 go_wp2_with fail
 go_ret;exact⟨rfl,rfl⟩
end
def Tryz.U0:Ig prog 35 80 (.agg #[fQ ⟨#[]⟩,fQ ⟨#[]⟩]) 2 32:=⟨underlying35,by kernel_rfl,rfl⟩
def Ol(key from_ tz:ByteArray):Bool:= !Op.bytesLess key.toList from_.toList&&(tz.toList==[]||Op.bytesLess key.toList tz.toList)
def eY(key from_ tz:ByteArray)(w:World):Calls prog 49 #[.string key,.string from_,.string tz] w λe w'=>e=.returned (.bool (Ol key from_ tz))/\w=w':=by
 have he:(⟨#[]⟩:ByteArray).toList=[]:=by unfold ByteArray.toList ByteArray.toList.loop;rfl
 cases h1:Op.bytesLess key.toList from_.toList<;>cases h2:(tz.toList==[])<;>cases h3:Op.bytesLess key.toList tz.toList
 all_goals(have HG:Hid (Ol key from_ tz=_):=Ac (by unfold Ol;rw[h1,h2,h3]))
 all_goals(go_enter func49,ntmps49)
 all_goals(go_wp2)
 all_goals(go_ret)
 all_goals(exact⟨by rw[HG.out];rfl,rfl⟩)
section
variable{w w':World}{g d p x tt bk L:Nat}{s:St}{b:Bk}{t:Tb}{F J:Nat->Prop}{slot:UInt64}{jv:Value}{id:Int}{sv:Value}{st:UInt64}
end
