import Derived.Laws.IdiomRangeMap
import Derived.Test.YtjcppneoncpdbaaGreatDoorG29
open Nat renaming zero_add->CS
namespace Go.Proofs.YtjcppneoncpdbaaGreatDoor
open Go.RowKit
theorem cZ:∀(l:List (ByteArray×Value))(i:Nat){e:MapEntry},e∈TF i l->∃j,∃h:j<l.length,e={key:= .string l[j].1,val:=l[j].2,born:=i+j}
 | (o,v)::t,i,e,h=>by
   rcases List.mem_cons.1 h with rfl| h
   ·exact⟨0,by simp,rfl⟩
   ·obtain⟨j,hj,rfl⟩:=cZ t (i+1) h;exact⟨j+1,by simpa using hj,by simp only [List.getElem_cons_succ,Nat.add_assoc,Nat.add_comm 1 j]⟩
theorem df:∀(l:List (ByteArray×Value))(i j:Nat)(h:j<l.length),({key:= .string l[j].1,val:=l[j].2,born:=i+j}:MapEntry)∈TF i l
 | (o,v)::t,i,0,h=>List.mem_cons_self ..
 | (o,v)::t,i,j+1,h=>by
   have:=df t (i+1) j (by simpa using h);rw [show i+1+j=i+(j+1)by omega]at this;exact List.mem_cons_of_mem _ this
theorem jL:∀(l:List (ByteArray×Value))(i:Nat),(TF i l).map (·.born)=List.range' i l.length
 | [],_=>rfl
 | (o,v)::t,i=>by simp only [TF,List.map_cons,jL t (i+1),List.length_cons,List.range'_succ]
theorem wB(l:List (ByteArray×Value)):((TF 0 l).map (·.born)).Nodup:=by rw [jL];exact List.nodup_range'
def Yb(mb n:Nat)(seen:Array Nat):Obj:= .mapIter (some mb) n seen n
theorem Vf{P:Program}(w:World)(ty:TypeId)(mb:Nat)(seen:Array Nat)(l:List (ByteArray×Value))(h:Oi w mb l):
 ((∀j,j<l.length->seen.contains j=true)/\(Instr.next (.pointer (some ⟨w.heap.size,0,none⟩)) false ty).run P (w.alloc (Yb mb l.length seen))= .ok (.tuple #[.bool false]) (w.alloc (Yb mb l.length seen)))\/
 ∃j,∃hj:j<l.length,∃w1:World,Dr w w1/\seen.contains j=false/\(leftOf (TF 0 l).toArray (seen.push j)).size<(leftOf (TF 0 l).toArray seen).size/\
  (Instr.next (.pointer (some ⟨w.heap.size,0,none⟩)) false ty).run P (w.alloc (Yb mb l.length seen))= .ok (.tuple #[.bool true,.string l[j].1,l[j].2]) (w1.alloc (Yb mb l.length (seen.push j))):=by
 obtain⟨es,hes⟩:∃es,es=(TF 0 l).toArray:=⟨_,rfl⟩;have hb:w.heap[mb]? =some (.map es l.length):=hes▸h;have hold:∀x∈es.toList,x.born<l.length:=fun x hx=>by
  rw [hes]at hx;obtain⟨j,hj,rfl⟩:=cZ l 0 hx;simpa using hj
 have hb':(w.alloc (Yb mb l.length seen)).heap[mb]? =some (.map es l.length):=by show(w.heap.push _)[mb]? =_;rw [Array.getElem?_push,if_neg (Nat.ne_of_lt h.lt),hb]
 rw [<-hes];simp only [Yb]at hb'⊢;simp only [Instr.next,getObj,Sem.run_bind,Sem.run,heap_alloc_new,hb',Result.andThen,next_test_false seen es l.length l.length hold (Nat.le_refl _),Bool.false_eq_true,if_false];obtain⟨R,hR⟩:∃R,R=leftOf es seen:=⟨_,rfl⟩;have hmem:∀x∈R.toList,x.born<l.length:=fun x hx=>hold x (mem_left (hR▸hx)).1
 have e1:R.filter (fun x=>decide (x.born<l.length))=R:=Array.filter_eq_self.2 (fun x hx=>by simpa using hmem x (by simpa using hx));have e2:R.filter (fun x=>decide (x.born>=l.length))= #[]:=by
  rw [Array.filter_eq_empty_iff];intro x hx;have:=hmem x (by simpa using hx);simp;omega
 have hR':Array.filter (fun e=> !seen.contains e.born) es=R:=hR.symm;simp only [hR',e1,e2,Array.append_empty];by_cases h0:R.size=0
 ·left;refine⟨fun j hj=> ?_,?_⟩
  ·have hm:=df l 0 j hj;have:=all_seen es seen (hR▸h0) _ (show _∈es.toList by rw [hes];exact hm);simpa using this
  ·obtain rfl:R= #[]:=Array.eq_empty_of_size_eq_zero h0;simp [choose,Sem.run,Question.forced]
 ·right;have hne:R.isEmpty=false:=by simp [Array.isEmpty,h0]
  simp only [hne,Bool.false_eq_true,if_false,Array.empty_append,Array.size_map];have hch:∃(j:Nat)(w1:World),j<R.size/\Dr w w1/\(choose (Question.mapNext R.size)).run P (w.alloc (.mapIter (some mb) l.length seen l.length))= .ok j (w1.alloc (.mapIter (some mb) l.length seen l.length)):=by
   by_cases hf:R.size<=1
   ·exact⟨0,w,by omega,Dr.refl w,by simp [choose,Sem.run,Question.forced,hf]⟩
   ·exact⟨_,w.drew,Nat.mod_lt _ (by omega),Dr.drew w,by
    simp only [choose,Sem.run,Question.forced,decide_eq_true_eq,hf,if_false,Question.cut];rfl⟩
  obtain⟨i,w1,hi,hdr,hrun⟩:=hch;have hil:R[i]∈R.toList:=by simp
  obtain⟨E,hE⟩:∃E,E=R[i]:=⟨_,rfl⟩;rw [<-hE]at hil;have Abz:E∈(leftOf es seen).toList:=by rw [<-hR];exact hil
  obtain⟨hin,hns⟩:=mem_left Abz;obtain⟨j,hj,hje⟩:=cZ l 0 (show E∈TF 0 l by rw [hes]at hin;exact hin);rw [CS]at hje;have hsz:w1.heap.size=w.heap.size:=by obtain⟨q,rfl⟩:=hdr;rfl
  have hset:∀(o':Obj),(setObj w.heap.size o').run P (w1.alloc (.mapIter (some mb) l.length seen l.length))= .ok () (w1.alloc o'):=fun o'=>by
   simp only [setObj,Sem.run];rw [<-hsz,heap_alloc_new];show Result.ok () ({w1.alloc (.mapIter (some mb) l.length seen l.length)with heap:=(w1.heap.push (.mapIter (some mb) l.length seen l.length)).setIfInBounds w1.heap.size o'}:World)=_;have:(w1.heap.push (.mapIter (some mb) l.length seen l.length)).setIfInBounds w1.heap.size o'=w1.heap.push o':=by
    apply Array.toList_inj.1;simp
   rw [this];rfl
  rw [hje]at hns;have hls:=left_shrinks es seen E Abz;rw [hje]at hls;refine⟨j,hj,w1,hdr,hns,hls,?_⟩;simp only [hrun,Array.getElem?_map,Array.getElem?_eq_getElem hi,Option.map_some,Sem.run_bind,hset,Result.andThen,<-hE,hje];rfl
theorem TI{P:Program}(w:World)(mb:Nat)(seen:Array Nat)(l:List (ByteArray×Value))(h:Oi w mb l)(j:Nat)(hj:j<l.length):
 (Instr.entry (.pointer (some ⟨w.heap.size,0,none⟩))).run P (w.alloc (Yb mb l.length (seen.push j)))= .ok (.tuple #[.string l[j].1,l[j].2]) (w.alloc (Yb mb l.length (seen.push j))):=by
 have hm:=df l 0 j hj;rw [CS]at hm;exact run_entry_map (P:=P) w mb l.length seen (TF 0 l).toArray l.length {key:= .string l[j].1,val:=l[j].2,born:=j} h hm (wB l)
theorem TJ{P:Program}{t kt et:TypeId}(ht:P.underlying t=some (.map kt et))(w:World)(mb:Nat)(l:List (ByteArray×Value))(h:Oi w mb l):
 (Instr.range t (.map (some mb))).run P w= .ok (.pointer (some ⟨w.heap.size,0,none⟩)) (w.alloc (Yb mb l.length #[])):=run_range_map w t kt et mb _ _ ht h
end Go.Proofs.YtjcppneoncpdbaaGreatDoor
