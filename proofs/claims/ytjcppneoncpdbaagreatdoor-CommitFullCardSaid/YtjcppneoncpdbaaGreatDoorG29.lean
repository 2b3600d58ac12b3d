import Derived.Test.YtjcppneoncpdbaaGreatDoorG23
open List renaming cons_append->BI,length_cons->Bh,mem_cons_self->Be,mem_cons_of_mem->Bi
namespace Go.Proofs.YtjcppneoncpdbaaGreatDoor
open Go.RowKit
def TF:Nat->List (ByteArray×Value)->List MapEntry
 | _,[]=>[]
 | i,(o,v)::t=>{key:= .string o,val:=v,born:=i}::TF (i+1) t
theorem qP(o:ByteArray)(v:Value):∀(l:List (ByteArray×Value))(i:Nat),TF i (l++[(o,v)])=TF i l++[{key:= .string o,val:=v,born:=i+l.length}]
 | [],i=>rfl
 | (a,b)::t,i=>by
   simp only [BI,TF,qP o v t (i+1),Bh];rw [show i+1+t.length=i+(t.length+1)by omega]
theorem cu:∀(l:List (ByteArray×Value))(i:Nat),(TF i l).length=l.length
 | [],_=>rfl
 | (_,_)::t,i=>by simp [TF,cu t]
theorem Z7(k:ByteArray):∀(l:List (ByteArray×Value))(i n:Nat),(∀p∈l,p.1≠k)->Instr.findNow .string (.string k) (TF i l) n=some none
 | [],_,_,_=>rfl
 | (a,b)::t,i,n,h=>by
   have ha:(k==a)=false:=by rw [bK];exact decide_eq_false (fun e=>h (a,b) (Be ..) e.symm)
   simp only [TF,Instr.findNow,Instr.sameNow,ha];exact Z7 k t (i+1) (n+1) (fun p hp=>h p (Bi _ hp))
theorem XM(k:ByteArray)(v:Value)(l2:List (ByteArray×Value)):∀(l1:List (ByteArray×Value))(i n:Nat),(∀p∈l1,p.1≠k)->Instr.findNow .string (.string k) (TF i (l1++(k,v)::l2)) n=some (some (n+l1.length,v))
 | [],_,_,_=>by
   have ha:(k==k)=true:=by rw [bK];exact decide_eq_true rfl
   simp [TF,Instr.findNow,Instr.sameNow,ha]
 | (a,b)::t,i,n,h=>by
   have ha:(k==a)=false:=by rw [bK];exact decide_eq_false (fun e=>h (a,b) (Be ..) e.symm)
   simp only [BI,TF,Instr.findNow,Instr.sameNow,ha];rw [XM k v l2 t (i+1) (n+1) (fun p hp=>h p (Bi _ hp))];simp only [Bh];rw [show n+1+t.length=n+(t.length+1)by omega]
def Oi(w:World)(mb:Nat)(l:List (ByteArray×Value)):Prop:=w.heap[mb]? =some (.map (TF 0 l).toArray l.length)
theorem Oi.lt{w:World}{mb:Nat}{l:List (ByteArray×Value)}(h:Oi w mb l):mb<w.heap.size:=(Array.getElem?_eq_some_iff.1 h).1
theorem Oi.below{w w':World}{mb:Nat}{l:List (ByteArray×Value)}(h:Oi w mb l)(k:Below w.heap.size w w'):Oi w' mb l:=(k.block _ h.lt).trans h
section
variable{P:Program}{t kt et:TypeId}
theorem XN(ht:P.underlying t=some (.map kt et))(hk:P.underlying kt=some .string)(W:World)(mb:Nat)(l1 l2:List (ByteArray×Value))(k:ByteArray)(v:Value)(h:Oi W mb (l1++(k,v)::l2))(hn:∀p∈l1,p.1≠k):
 (Instr.lookup t (.map (some mb)) (.string k) false).run P W= .ok v W:=by
 have h1:=run_underlying (P:=P) ht;have h2:=run_underlying (P:=P) hk;have h3:=fun b w=>Og (P:=P) hk b 9999 k w
 have h4:=JJ (P:=P) h;have hf:=XM k v l2 l1 0 0 hn;simp [Instr.lookup,h1,h2,h3,h4,Instr.findKey,hf,Result.andThen]
theorem vW(ht:P.underlying t=some (.map kt et))(hk:P.underlying kt=some .string)(W:World)(mb:Nat)(l:List (ByteArray×Value))(k:ByteArray)(v:Value)(h:Oi W mb l)(hn:∀p∈l,p.1≠k):
 (Instr.mapUpdate t (.map (some mb)) (.string k) v).run P W= .ok () (D9 W mb (TF 0 (l++[(k,v)])).toArray (l++[(k,v)]).length):=by
 have h1:=run_underlying (P:=P) ht;have h2:=run_underlying (P:=P) hk;have h3:=fun w=>Og (P:=P) hk false 9999 k w
 have h4:=JJ (P:=P) h;have h5:=fun o=>Rj (P:=P) o h
 have hf:=Z7 k l 0 0 hn;rw [qP];simp [Instr.mapUpdate,h1,h2,h3,h4,h5,Instr.findKey,hf,D9,Result.andThen]
end
end Go.Proofs.YtjcppneoncpdbaaGreatDoor
