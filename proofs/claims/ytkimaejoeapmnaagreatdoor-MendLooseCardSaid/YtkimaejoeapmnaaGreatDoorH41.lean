import Derived.Test.YtkimaejoeapmnaaGreatDoorH40
set_option linter.defProp false
set_option maxHeartbeats 32000000
set_option maxRecDepth 100000
open List renaming mem_cons_self->Bh,mem_cons_of_mem->BH,map_cons->Cb,getElem_map->IU,map_append->Dx,nodup_append->CE,mem_map->Ba,mem_singleton->BD,getElem_mem->BI
open Nat renaming le_refl->Ad
open Array renaming getElem?_eq_some_iff->AB
open Go.Lib renaming hid->Aa
open Go.World renaming iterSeen->KY
open Go.Value renaming string->KU
namespace Go.Proofs.YtkimaejoeapmnaaGreatDoor
open Go.RowKit
open Go.Proofs.Tryz
def lX:∀(l:List (ByteArray×Value))(i:Nat){e:MapEntry},e∈PD i l->∃j,∃h:j<l.length,e={key:= .string l[j].1,val:=l[j].2,born:=i+j}
 | (o,v)::t,i,e,h=>by
   rcases List.mem_cons.1 h with rfl| h
   ·exact⟨0,by simp,rfl⟩
   ·obtain⟨j,hj,rfl⟩:=lX t (i+1) h;exact⟨j+1,by simpa using hj,by simp only [List.getElem_cons_succ,Nat.add_assoc,Nat.add_comm 1 j]⟩
def Aa7:∀(l:List (ByteArray×Value))(i j:Nat)(h:j<l.length),({key:= .string l[j].1,val:=l[j].2,born:=i+j}:MapEntry)∈PD i l
 | (o,v)::t,i,0,h=>Bh ..
 | (o,v)::t,i,j+1,h=>by
   have:=Aa7 t (i+1) j (by simpa using h);rw [show i+1+j=i+(j+1)by omega]at this;exact BH _ this
def sV:∀(l:List (ByteArray×Value))(i:Nat),(PD i l).map (·.born)=List.range' i l.length
 | [],_=>rfl
 | (o,v)::t,i=>by simp only [PD,Cb,sV t (i+1),List.length_cons,List.range'_succ]
def Aef(l:List (ByteArray×Value)):((PD 0 l).map (·.born)).Nodup:=by rw [sV];exact List.nodup_range'
def uS(mb n:Nat)(seen:Array Nat):Obj:= .mapIter (some mb) n seen n
def QF{P:Program}{t kt et:TypeId}(ht:P.underlying t=some (.map kt et))(w:World)(mb:Nat)(l:List (ByteArray×Value))(h:Jj w mb l):
 (Instr.range t (.map (some mb))).run P w= .ok (Az w.heap.size) (w.alloc (uS mb l.length #[])):=run_range_map w t kt et mb _ _ ht h
def VO(m:List (ByteArray×LkV)):(QU m).length=m.length:=by simp [QU]
def Aa8(m:List (ByteArray×LkV))(j:Nat)(h:j<(QU m).length)(h2:j<m.length):(QU m)[j]=(m[j].1,lkV m[j].2):=by simp [QU]
open Go.ChangeMaps(setBlock)
def bG(w:World)(b:Nat)(o:Obj):Touch (λk=>k=b) w (setBlock w b o):=
 ⟨rfl,rfl,rfl,by simp [setBlock],λk hk hn=>by
  simp only [setBlock];rw [Array.getElem?_setIfInBounds,if_neg (λe=>hn e.symm)]⟩
def QG{P:Program}(w:World)(ty:TypeId)(r mb:Nat)(seen:Array Nat)(l:List (ByteArray×Value))(h:Jj w mb l)(hr:w.heap[r]? =some (uS mb l.length seen)):
 ((∀j,j<l.length->seen.contains j=true)/\(Instr.next (Az r) false ty).run P w= .ok (.tuple #[.bool false]) w)\/
 ∃j,∃hj:j<l.length,∃W:World,seen.contains j=false/\(leftOf (PD 0 l).toArray (seen.push j)).size<(leftOf (PD 0 l).toArray seen).size/\Touch (λb=>b=r) w W/\W.heap.size=w.heap.size/\W.heap[r]? =some (uS mb l.length (seen.push j))/\
  (Instr.next (Az r) false ty).run P w= .ok (.tuple #[.bool true,.string l[j].1,l[j].2]) W/\(Instr.entry (Az r)).run P W= .ok (.tuple #[.string l[j].1,l[j].2]) W:=by
 have hrb:mb≠r:=λe=>by
  rw [<-e,show w.heap[mb]? =some (.map (PD 0 l).toArray l.length)from h]at hr;cases hr
 have hold:∀x∈(PD 0 l).toArray.toList,x.born<l.length:=λx hx=>by
  obtain⟨j,hj,rfl⟩:=lX l 0 hx;simpa using hj
 rcases run_next_at (P:=P) w ty r mb l.length l.length seen (PD 0 l).toArray l.length hr h hold (Ad _)with⟨h0,hrun⟩| ⟨e,he,w1,hal,hrun⟩
 ·refine .inl ⟨λj hj=> ?_,hrun⟩;have:=all_seen (PD 0 l).toArray seen h0 _ (Aa7 l 0 j hj);simpa using this
 ·obtain⟨hin,hns⟩:=mem_left he;obtain⟨j,hj,hje⟩:=lX l 0 (show e∈PD 0 l from hin);have hls:=left_shrinks (PD 0 l).toArray seen e he;rw [Nat.zero_add]at hje;subst hje;have ht:Touch (λb=>b=r) w w1/\w1.heap.size=w.heap.size:=by
   rcases hal with rfl| rfl
   ·exact⟨Touch.refl _ _,rfl⟩
   ·exact⟨Touch.of_below ((Dr.one w 1).below _),rfl⟩
  have hrl:r<w1.heap.size:=by rw [ht.2];exact(AB.1 hr).1
  have h1:(setBlock w1 r (uS mb l.length (seen.push j))).heap[r]? =some (uS mb l.length (seen.push j)):=by simp [setBlock,hrl]
  have t2:Touch (λb=>b=r) w (setBlock w1 r (uS mb l.length (seen.push j))):=ht.1.trans (bG _ _ _) (λ_ e=> .inl e);refine .inr ⟨j,hj,_,hns,hls,t2,by rw [<-ht.2];simp [setBlock],h1,hrun,?_⟩;exact run_entry_at (P:=P) _ r mb l.length seen (PD 0 l).toArray l.length _ h1 ((t2.block mb h.lt hrb).trans h) hin (Aef l)
end Go.Proofs.YtkimaejoeapmnaaGreatDoor
namespace Go.Proofs.YtkimaejoeapmnaaGreatDoor
open Go.Proofs.Tryz
open Go.RowKit
def Ii(ks:List (ByteArray×List Lk))(at_:Nat)(seen:Nat->Prop)(es:List (ByteArray×Value)):Prop:=
 (es.map (·.1)).Nodup/\∀k v,(k,v)∈es<->∃j,∃hj:j<ks.length,seen j/\ks[j].1=k/\∃t,Vj ks[j].2 at_=some t/\v= .string (⟨#[61]⟩++t)
section
variable{ks:List (ByteArray×List Lk)}{at_ j:Nat}{seen:Array Nat}{es es':List (ByteArray×Value)}{t:ByteArray}
def SL(seen:Array Nat)(j i:Nat):((seen.push j).contains i=true)<->seen.contains i=true\/i=j:=by
 simp
def Ii.none(h:Ii ks at_ (λi=>seen.contains i=true) es)(hj:j<ks.length)(hn:Vj ks[j].2 at_=none):Ii ks at_ (λi=>(seen.push j).contains i=true) es:=by
 refine⟨h.1,λk v=>(h.2 k v).trans ⟨λ⟨i,hi,h1,h2⟩=>⟨i,hi,(SL seen j i).2 (.inl h1),h2⟩,λ⟨i,hi,h1,h2,t,h3,h4⟩=> ?_⟩⟩;rcases(SL seen j i).1 h1 with h1| rfl
 ·exact⟨i,hi,h1,h2,t,h3,h4⟩
 ·rw [hn]at h3;cases h3
def Ii.some(h:Ii ks at_ (λi=>seen.contains i=true) es)(hd:(ks.map (·.1)).Nodup)(hj:j<ks.length)(hns:seen.contains j=false)(hs:Vj ks[j].2 at_=some t):
 (∀p∈es,p.1≠ks[j].1)/\Ii ks at_ (λi=>(seen.push j).contains i=true) (es++[(ks[j].1,.string (⟨#[61]⟩++t))]):=by
 have hinj:∀i(hi:i<ks.length),ks[i].1=ks[j].1->i=j:=λi hi e=>by
  have h1:=List.pairwise_iff_getElem.1 (List.nodup_iff_pairwise_ne.1 hd);rcases Nat.lt_trichotomy i j with h2| h2| h2
  ·exact absurd (by rw [IU,IU];exact e) (h1 i j (by simpa using hi) (by simpa using hj) h2)
  ·exact h2
  ·exact absurd (by rw [IU,IU];exact e.symm) (h1 j i (by simpa using hj) (by simpa using hi) h2)
 have hne:∀p∈es,p.1≠ks[j].1:=λp hp e=>by
  obtain⟨i,hi,h1,h2,_⟩:=(h.2 p.1 p.2).1 hp;rw [hinj i hi (h2.trans e),hns]at h1;cases h1
 refine⟨hne,?_,λk v=> ?_⟩
 ·rw [Dx];refine CE.2 ⟨h.1,by simp,λa ha b hb e=> ?_⟩;obtain⟨p,hp,rfl⟩:=Ba.1 ha;simp only [Cb,List.map_nil,BD]at hb;exact hne p hp (e.trans hb)
 ·rw [List.mem_append,h.2 k v,BD];constructor
  ·rintro(⟨i,hi,h1,h2⟩| e)
   ·exact⟨i,hi,(SL seen j i).2 (.inl h1),h2⟩
   ·injection e with e1 e2
    exact⟨j,hj,(SL seen j j).2 (.inr rfl),e1.symm,t,hs,e2⟩
  ·rintro⟨i,hi,h1,h2,u,h3,h4⟩;rcases(SL seen j i).1 h1 with h1| rfl
   ·exact .inl ⟨i,hi,h1,h2,u,h3,h4⟩
   ·rw [hs]at h3;injection h3 with h3
    exact .inr (by rw [h4,<-h2,h3])
def Ii.all(h:Ii ks at_ (λi=>seen.contains i=true) es)(ha:∀i,i<ks.length->seen.contains i=true):Ii ks at_ (λ_=>True) es:=
 ⟨h.1,λk v=>(h.2 k v).trans ⟨λ⟨i,hi,_,h2⟩=>⟨i,hi,trivial,h2⟩,λ⟨i,hi,_,h2⟩=>⟨i,hi,ha i hi,h2⟩⟩⟩
def Ii.start:Ii ks at_ (λi=>(#[]:Array Nat).contains i=true) []:=
 ⟨List.nodup_nil,λk v=>⟨λh=>(nomatch h),λ⟨_,_,h,_⟩=>by simp at h⟩⟩
def Ii.same(h:Ii ks at_ (λ_=>True) es)(h':Ii ks at_ (λ_=>True) es'):es.length=es'.length/\∀p,p∈es<->p∈es':=by
 have hm:∀p,p∈es<->p∈es':=λp=>(h.2 p.1 p.2).trans (h'.2 p.1 p.2).symm
 have k1:∀{a b:List (ByteArray×Value)},(a.map (·.1)).Nodup->(∀p,p∈a->p∈b)->a.length<=b.length:=λ{a b}hn hs=>by
  have:=FU (a.map (·.1)) (b.map (·.1)) hn (λk hk=>by
   obtain⟨p,hp,rfl⟩:=Ba.1 hk;exact Ba.2 ⟨p,hs p hp,rfl⟩)
  simpa using this
 exact⟨Nat.le_antisymm (k1 h.1 (λp=>(hm p).1)) (k1 h'.1 (λp=>(hm p).2)),hm⟩
end
def sZ{at_:Nat}{t:ByteArray}:∀{l:List Lk},Vj l at_=some t->∃y∈l,y.rc.text=t
 | k::l,h=>by
   rw [Vj]at h;split at h
   ·split at h
    ·cases h
    ·injection h with h
     exact⟨k,Bh ..,h⟩
   ·obtain⟨y,hy,e⟩:=sZ h;exact⟨y,BH _ hy,e⟩
def Aia{es:List (ByteArray×Value)}(hd:(es.map (·.1)).Nodup){k:ByteArray}{v:Value}(h:(k,v)∈es):∃l1 l2,es=l1++(k,v)::l2/\∀p∈l1,p.1≠k:=by
 obtain⟨l1,l2,rfl⟩:=List.append_of_mem h;refine⟨l1,l2,rfl,λp hp e=> ?_⟩;rw [Dx]at hd;exact(CE.1 hd).2.2 _ (Ba.2 ⟨p,hp,rfl⟩) _ (Ba.2 ⟨(k,v),Bh ..,rfl⟩) e
def Aa9{w:World}{mb base:Nat}{m:List (ByteArray×LkV)}(h:QV w mb base m)(hd:(m.map (·.1)).Nodup)(hl:∀q∈m,q.2.l.length<=100000/\∀y∈q.2.l,y.rc.text.size<=1000)(at_:UInt64):
 Calls prog 23 #[.map (some mb),.int .u64 (at_.toNat:Int)] w λe w'=>∃tb es,e= .returned (.map (some tb))/\Jj w' tb es/\w.heap.size<=tb/\Ii (m.map λq=>(q.1,q.2.l)) at_.toNat (λ_=>True) es/\η w w':=by
 have mm:=λW=>run_makeMap (P:=prog) 65 W
 obtain⟨w1,hw1⟩:∃w1,w1=w.alloc (.map #[] 0):=⟨_,rfl⟩;obtain⟨w2,hw2⟩:∃w2,w2=w1.alloc (uS mb (QU m).length #[]):=⟨_,rfl⟩;have hb1:η w w1:=hw1▸(Below.refl _ _).alloc (Ad _) _;have hb2:η w1 w2:=hw2▸(Below.refl _ _).alloc (Ad _) _;have hs1:w1.heap.size=w.heap.size+1:=by rw [hw1];simp
 have ht1:Jj w1 w.heap.size []:=hw1▸heap_alloc_new _ _;have ht2:Jj w2 w.heap.size []:=ht1.below hb2;have hi2:w2.heap[w.heap.size+1]? =some (uS mb (QU m).length #[]):=by rw [<-hs1,hw2];exact heap_alloc_new _ _
 have hrg:=QF (P:=prog) underlying55 w1 mb (QU m) (h.below hb1).map;rw [hs1,<-hw2]at hrg;have HB2:Hid (η w w2):=Aa (τ hb1 hb2);have HT2:=Aa ht2;have HI2:=Aa hi2;have HW1:=Aa hw1;have H:=Aa h;have HD:Hid (((m.map λq=>(q.1,q.2.l)).map (·.1)).Nodup):=Aa (by rw [List.map_map];exact hd);have HL:=Aa hl;rw [hw1]at hrg;clear h hd hl hb1 hb2 ht1 ht2 hi2 hw1 hw2 hs1;go_enter func23,ntmps23
 go_wp2_with fail
 go_loopw [](λwr=>∃(seen:Array Nat)(es:List (ByteArray×Value)),wr.heap[w.heap.size+1]? =some (uS mb (QU m).length seen)/\Jj wr w.heap.size es/\Ii (m.map λq=>(q.1,q.2.l)) at_.toNat (λi=>seen.contains i=true) es/\η w wr)(λwr=>(leftOf (PD 0 (QU m)).toArray (wr.iterSeen (w.heap.size+1))).size)
 case atStart=>exact⟨#[],[],HI2.out,HT2.out,Ii.start,HB2.out⟩
 case round=>
  obtain⟨seen,es,hit,htx,hst,hb⟩:=hrel;have K1:=H.out.below hb;have hsn:wr.iterSeen (w.heap.size+1)=seen:=by unfold KY;rw [hit];rfl
  clear hrg;rcases QG (P:=prog) wr 0 (w.heap.size+1) mb seen (QU m) K1.map hit with⟨hall,hrun⟩| ⟨j,hj,W,hns,hless,hT,hsz,lY,hrun,hen⟩
  ·have hnx:∀ty,(Instr.next (Az (w.heap.size+1)) false ty).run prog wr=_:=λ_=>hrun
   have HE:Hid (Ii (m.map λq=>(q.1,q.2.l)) at_.toNat (λ_=>True) es):=Aa (hst.all (λi hi=>hall i (by rw [VO];simpa using hi)));have HTx:=Aa htx;have HB:=Aa hb;clear hrun K1 hst htx hb hall hit
   go_wp2_with fail
   go_ret;exact⟨w.heap.size,es,rfl,HTx.out,Ad _,HE.out,HB.out⟩
  ·have hjm:j<m.length:=by rw [VO]at hj;exact hj
   have hbW:η w W:=hb.trans (hT.below hb.size (λb e=>by rw [e];omega));have htW:Jj W w.heap.size es:=(hT.block _ htx.lt O).trans htx;have r1:=(H.out.below hbW).rows _ (BI hjm);have hlj:=HL.out _ (BI hjm);have hkl:j<(m.map λq=>(q.1,q.2.l)).length:=by simpa using hjm
   have hkg:(m.map λq=>(q.1,q.2.l))[j]=(m[j].1,m[j].2.l):=by simp
   have HS:=Ag1 m[j].2.l m[j].2.A m[j].2.c at_ W hlj.1 r1.1;have hnx:∀ty,(Instr.next (Az (w.heap.size+1)) false ty).run prog wr=_:=λ_=>hrun
   rw [Aa8 m j hj hjm]at hen hnx;unfold lkV at hen hnx;have HIt:=Aa lY;have HTx:=Aa htW;have HB:=Aa hbW;have HM:Hid ((leftOf (PD 0 (QU m)).toArray (seen.push j)).size<(leftOf (PD 0 (QU m)).toArray (wr.iterSeen (w.heap.size+1))).size):=Aa (by rw [hsn];exact hless);unfold Akf at HS;cases hse:Vj m[j].2.l at_.toNat with
   | none=>
     rw [hse]at HS;have HS:=Aa HS;have HN:=Aa (hst.none hkl (by rw [hkg];exact hse));clear hrun K1 hst htx hb hit hT hsz lY hbW htW r1 hlj hless hns hkl hkg hse hsn;generalize m[j]=y at*
     go_wp2_with fail
     refine HS.out.mono ?_;rintro e w5⟨rfl,hb5⟩;have Jz:=Aa hb5;clear hb5 HS hen hnx
     go_wp2_with fail
     go_roundw
     case rel=>exact⟨seen.push j,es,(Jz.out.block _ (AB.1 HIt.out).1).trans HIt.out,HTx.out.below Jz.out,HN.out,τ HB.out Jz.out⟩
     case measure=>
      have e5:w5.iterSeen (w.heap.size+1)=seen.push j:=by unfold KY;rw [Jz.out.block _ (AB.1 HIt.out).1,HIt.out];rfl
      rw [e5];exact HM.out
   | some t=>
     rw [hse]at HS;have HS:=Aa HS;obtain⟨hnk,hn⟩:=hst.some HD.out hkl hns (t:=t) (by rw [hkg];exact hse);rw [hkg]at hnk hn;have HN:=Aa hn;have HNk:=Aa hnk;have htl:t.size<=1000:=by
      obtain⟨y,hy,rfl⟩:=sZ hse;exact hlj.2 y hy
     have qa:=λW=>run_string_add (P:=prog) (w:=W) ⟨#[61]⟩ t U O
     clear hrun K1 hst htx hb hit hT hsz lY hbW htW r1 hlj hless hns hkl hkg hse hsn hn hnk;generalize m[j]=y at*
     go_wp2_with fail
     refine HS.out.mono ?_;rintro e w5⟨rfl,hb5⟩;have Jz:=Aa hb5;have um:=gV (P:=prog) underlying65 underlying9 w5 w.heap.size es y.1 (.string (⟨#[61]⟩++t)) (HTx.out.below hb5) HNk.out;have HP:Hid (Jj (Ef w5 w.heap.size (PD 0 (es++[(y.1,KU (⟨#[61]⟩++t))])).toArray (es++[(y.1,KU (⟨#[61]⟩++t))]).length) w.heap.size (es++[(y.1,KU (⟨#[61]⟩++t))])):=Aa (L9 _ _ _ _ (HTx.out.below hb5).lt);have kU:=Aa (Iy w5 w.heap.size (PD 0 (es++[(y.1,KU (⟨#[61]⟩++t))])).toArray (es++[(y.1,KU (⟨#[61]⟩++t))]).length);obtain⟨W6,QY⟩:∃W6,W6=Ef w5 w.heap.size (PD 0 (es++[(y.1,KU (⟨#[61]⟩++t))])).toArray (es++[(y.1,KU (⟨#[61]⟩++t))]).length:=⟨_,rfl⟩;rw [<-QY]at um HP kU;have HI6:Hid (W6.heap[w.heap.size+1]? =some (uS mb (QU m).length (seen.push j))):=Aa (by
      have h1:=(AB.1 HIt.out).1;rw [kU.out.block _ (Nat.lt_of_lt_of_le h1 hb5.size) O,hb5.block _ h1];exact HIt.out)
     clear hb5 HS hen hnx QY
     go_wp2_with fail
     go_roundw
     case rel=>exact⟨seen.push j,_,HI6.out,HP.out,HN.out,(τ HB.out Jz.out).trans (kU.out.below (Nat.le_trans HB.out.size Jz.out.size) (λb e=>Nat.le_of_eq e.symm))⟩
     case measure=>
      have e5:W6.iterSeen (w.heap.size+1)=seen.push j:=by unfold KY;rw [HI6.out];rfl
      rw [e5];exact HM.out
def tq{w:World}{b1 b2:Nat}{es1 es2:List (ByteArray×Value)}(h1:Jj w b1 es1)(h2:Jj w b2 es2)(hd:(es2.map (·.1)).Nodup)(hs:∀p∈es1,∃t,p.2= .string t)(hlen:es1.length=es2.length)(hm:∀p,p∈es1<->p∈es2):
 Calls prog 22 #[.map (some b1),.map (some b2)] w λe w'=>e= .returned (.bool true)/\η w w':=by
 have hl1:=run_len_map (P:=prog) (w:=w) 65 3 b1 _ _ Γ h1;have hl2:=run_len_map (P:=prog) (w:=w) 65 3 b2 _ _ Γ h2;simp only [List.size_toArray,YB]at hl1 hl2;rw [<-hlen]at hl2;obtain⟨w2,hw2⟩:∃w2,w2=w.alloc (uS b1 es1.length #[]):=⟨_,rfl⟩;have hb2:η w w2:=hw2▸(Below.refl _ _).alloc (Ad _) _;have hi2:w2.heap[w.heap.size]? =some (uS b1 es1.length #[]):=by rw [hw2];exact heap_alloc_new _ _
 have hrg:=QF (P:=prog) underlying65 w b1 es1 h1;rw [<-hw2]at hrg;obtain⟨n,hn⟩:∃n,n=es1.length:=⟨_,rfl⟩;rw [<-hn]at hl1 hl2;have t2:((n:Int)!=(n:Int))=false:=by simp
 have HB2:=Aa hb2;have HI2:=Aa hi2;have H1:=Aa h1;have H2:=Aa h2;have HD:=Aa hd;have HS:=Aa hs;have HM:=Aa hm;clear h1 h2 hd hs hm hb2 hi2 hw2 hlen hn;go_enter func22,ntmps22
 go_wp2_with fail
 go_loopw [](λwr=>∃seen:Array Nat,wr.heap[w.heap.size]? =some (uS b1 es1.length seen)/\η w wr)(λwr=>(leftOf (PD 0 es1).toArray (wr.iterSeen w.heap.size)).size)
 case atStart=>exact⟨#[],HI2.out,HB2.out⟩
 case round=>
  obtain⟨seen,hit,hb⟩:=hrel;have hsn:wr.iterSeen w.heap.size=seen:=by unfold KY;rw [hit];rfl
  clear hrg hl1 hl2 t2;rcases QG (P:=prog) wr 0 w.heap.size b1 seen es1 (H1.out.below hb) hit with⟨_,hrun⟩| ⟨j,hj,W,hns,hless,hT,hsz,lY,hrun,hen⟩
  ·have hnx:∀ty,(Instr.next (Az w.heap.size) false ty).run prog wr=_:=λ_=>hrun
   have HB:=Aa hb;clear hrun hb hit
   go_wp2_with fail
   go_ret;exact⟨rfl,HB.out⟩
  ·have hbW:η w W:=hb.trans (hT.below hb.size (λb e=>by rw [e];exact Ad _));have hnx:∀ty,(Instr.next (Az w.heap.size) false ty).run prog wr=_:=λ_=>hrun
   obtain⟨t,hpt⟩:=HS.out es1[j] (BI hj);have hin:=(HM.out _).1 (BI hj);obtain⟨⟨k,v⟩,hkv⟩:∃p,p=es1[j]:=⟨_,rfl⟩;rw [<-hkv]at hpt hin hnx hen;obtain rfl:v= .string t:=hpt;obtain⟨l1,l2,e1,e2⟩:=Aia HD.out hin;have hlk:=xI (P:=prog) underlying65 underlying9 W b2 l1 l2 k (.string t) (e1▸H2.out.below hbW) e2;have q1:(t==t)=true:=by rw [aj];simp
   have q2:(t.toList==t.toList)=true:=by simp
   have HB:=Aa hbW;have HIt:=Aa lY;have HMs:Hid ((leftOf (PD 0 es1).toArray (seen.push j)).size<(leftOf (PD 0 es1).toArray (wr.iterSeen w.heap.size)).size):=Aa (by rw [hsn];exact hless);clear hrun hb hit hT hsz lY hbW hless hns hin hkv e1 e2 hsn
   go_wp2_with fail
   go_roundw
   case rel=>exact⟨seen.push j,HIt.out,HB.out⟩
   case measure=>
    have e5:W.iterSeen w.heap.size=seen.push j:=by unfold KY;rw [HIt.out];rfl
    rw [e5];exact HMs.out
