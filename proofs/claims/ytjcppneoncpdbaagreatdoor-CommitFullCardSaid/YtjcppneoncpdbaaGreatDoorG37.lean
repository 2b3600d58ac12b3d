import Derived.Test.YtjcppneoncpdbaaGreatDoorG24
import Derived.Test.YtjcppneoncpdbaaGreatDoorG31
import Derived.Test.YtjcppneoncpdbaaGreatDoorG32
import Derived.Test.YtjcppneoncpdbaaGreatDoorG36
set_option maxHeartbeats 32000000
set_option maxRecDepth 100000
open Go.Lib renaming hid->Aa
open List renaming map_map->FM,getElem?_map->BC,getElem?_eq_getElem->Af,getElem_mem->BD,range->Dn,map_congr_left->Sj,map_cons->Bo,sum_cons->ZE
namespace Go.Proofs.YtjcppneoncpdbaaGreatDoor
open Go.RowKit
theorem Adi(a:List Lk)(A B:Option Addr)(c d:Nat)(w:World)(hl:a.length<=100000)(ha:LkR w A a)(hb:LkR w B a):
 Calls Tryz.prog 61 #[.slice A a.length c,.slice B a.length d] w fun e w'=>e= .returned (.bool true)/\Dr w w':=by
 have HA:=Aa ha;have HB:=Aa hb;obtain⟨n,hn⟩:∃n,n=a.length:=⟨_,rfl⟩;have HN:=Aa hn;rw [<-hn]at hl⊢;have t2:((n:Int)!=(n:Int))=false:=by simp
 clear ha hb hn;go_enter Tryz.func61,Tryz.ntmps61
 go_wp2_with fail
 go_loopw [13](fun i wr=>∃k:Nat,k<=n/\i= .int .i64 (k:Nat)/\Dr w wr)(fun i _=>n- (intOf i).toNat)
 case atStart=>exact⟨0,Nat.zero_le _,rfl,Dr.refl _⟩
 case round=>
  obtain⟨k,hk,rfl,hdr⟩:=hrel;have HD:=Aa hdr;clear hdr;by_cases hlt:k<n
  ·have hkl:k<a.length:=by have:=HN.out;omega
   obtain⟨ba,oa,rfl,_,p0,p1,p2,p3,p4⟩:=(HA.out.below (HD.out.below _)).at k hkl;obtain⟨bb,ob,rfl,_,q0,q1,q2,q3,q4⟩:=(HB.out.below (HD.out.below _)).at k hkl;have hx1:(k:Int)<(n:Int):=by omega
   have hx2:decide ((k:Int)<(n:Int))=true:=decide_eq_true hx1;have hx5:decide (k<n)=true:=decide_eq_true hlt;have hwk:IntKind.i64.wrap ((k:Int)+1)=(k:Int)+1:=IntWalk.i64_in _ (by omega);generalize a[k]=y at*;have t3:(y.off==y.off)=true:=by simp
   have t4:((y.rc.stamp.toNat:Int)==(y.rc.stamp.toNat:Int))=true:=by simp
   have t5:((y.rc.next.toNat:Int)==(y.rc.next.toNat:Int))=true:=by simp
   have t6:(y.rc.gone==y.rc.gone)=true:=by simp
   have t7:(y.rc.text==y.rc.text)=true:=by rw [bK];simp
   go_wp2_with fail
   go_quiet(fail)
   go_wp2_with fail
   go_roundw
   case rel=>exact⟨k+1,by omega,by go_num,by first| exact HD.out.trans (Dr.one _ _)| exact HD.out⟩
   case measure=>simp [intOf];omega
  ·have hx2:decide ((k:Int)<(n:Int))=false:=decide_eq_false (by omega);have hx5:decide (k<n)=false:=decide_eq_false hlt
   go_wp2_with fail
   go_ret;exact⟨rfl,HD.out⟩
theorem OU(m:List (ByteArray×Y6)):(Nk m).length=m.length:=by simp [Nk]
theorem VK(m:List (ByteArray×Y6))(j:Nat)(h:j<(Nk m).length)(h2:j<m.length):(Nk m)[j]=(m[j].1,lkV m[j].2):=by simp [Nk]
theorem wC(m:List (ByteArray×Y6))(hd:(m.map (·.1)).Nodup)(j:Nat)(h:j<m.length):∃l1 l2,Nk m=l1++(m[j].1,lkV m[j].2)::l2/\∀p∈l1,p.1≠m[j].1:=by
 refine⟨(Nk m).take j,(Nk m).drop (j+1),?_,fun p hp e=> ?_⟩
 ·rw [<-VK m j (by rw [OU];exact h) h,<-List.drop_eq_getElem_cons,List.take_append_drop]
 ·obtain⟨i,hi,rfl⟩:=List.mem_iff_getElem.1 hp;have hij:i<j:=by rw [List.length_take]at hi;omega
  rw [List.getElem_take,VK m i (by rw [OU];omega) (by omega)]at e;have:=(List.nodup_iff_pairwise_ne.1 hd);have:=List.pairwise_iff_getElem.1 this i j (by simp;omega) (by simpa using h) hij;simp only [List.getElem_map]at this;exact this e
theorem oM{w:World}{b1 b2 Ajx Ajy:Nat}{m1 m2:List (ByteArray×Y6)}(h1:Oj w b1 Ajx m1)(h2:Oj w b2 Ajy m2)(he:m1.map (fun q=>(q.1,q.2.l))=m2.map (fun q=>(q.1,q.2.l)))(hd:(m1.map (·.1)).Nodup)(hl:∀q∈m1,q.2.l.length<=100000):
 Calls Tryz.prog 26 #[.map (some b1),.map (some b2)] w fun e w'=>e= .returned (.bool true)/\Below w.heap.size w w':=by
 have hlen:m1.length=m2.length:=by have:=congrArg List.length he;simpa using this
 have hd2:(m2.map (·.1)).Nodup:=by
  have e1:m2.map (·.1)=(m2.map (fun q=>(q.1,q.2.l))).map (·.1):=by rw [FM];rfl
  rw [e1,<-he,FM];exact hd
 have hat:∀j(g1:j<m1.length)(g2:j<m2.length),m1[j].1=m2[j].1/\m1[j].2.l=m2[j].2.l:=fun j g1 g2=>by
  have g3:(m1.map (fun q=>(q.1,q.2.l)))[j]? =(m2.map (fun q=>(q.1,q.2.l)))[j]? :=by rw [he]
  rw [BC,BC,Af g1,Af g2]at g3;simp only [Option.map_some,Option.some.injEq,Prod.mk.injEq]at g3;exact g3
 have hl1:=run_len_map (P:=Tryz.prog) (w:=w) 55 3 b1 _ _ (by kernel_rfl) h1.map;have hl2:=run_len_map (P:=Tryz.prog) (w:=w) 55 3 b2 _ _ (by kernel_rfl) h2.map;simp only [List.size_toArray,cu,OU]at hl1 hl2;rw [<-hlen]at hl2;have hrg:=TJ (P:=Tryz.prog) Tryz.underlying55 w b1 (Nk m1) h1.map;have t2:((m1.length:Int)!=(m1.length:Int))=false:=by simp
 have H1:=Aa h1;have H2:=Aa h2;have HAt:=Aa hat;have HD2:=Aa hd2;have HL:=Aa hl;have HLen:=Aa hlen;clear h1 h2 he hd hat hl hd2 hlen;go_enter Tryz.func26,Tryz.ntmps26
 go_wp2_with fail
 go_loopw [](fun wr=>∃(w1:World)(seen:Array Nat),Dr w w1/\wr=w1.alloc (Yb b1 (Nk m1).length seen))(fun wr=>(leftOf (TF 0 (Nk m1)).toArray (wr.iterSeen w.heap.size)).size)
 case atStart=>exact⟨w,#[],Dr.refl w,rfl⟩
 case round=>
  obtain⟨w1,seen,hdr,rfl⟩:=hrel;have hsz:w1.heap.size=w.heap.size:=by obtain⟨q,rfl⟩:=hdr;rfl
  have K1:=H1.out.below (hdr.below _);have law:=Vf (P:=Tryz.prog) w1 0 b1 seen (Nk m1) K1.map;rw [hsz]at law;rcases law with⟨_,hrun⟩| ⟨j,hj,w2,Aao,hns,hless,hrun⟩
  ·have hnx:∀ty,(Instr.next (.pointer (some ⟨w.heap.size,0,none⟩)) false ty).run Tryz.prog (w1.alloc (Yb b1 (Nk m1).length seen))=_:=fun _=>hrun
   have HB:Hid (Below w.heap.size w (w1.alloc (Yb b1 (Nk m1).length seen))):=Aa ((hdr.below _).alloc (by omega) _);clear hrun hsz K1 hdr hl1 hl2 hrg t2
   go_wp2_with fail
   go_ret;exact⟨rfl,HB.out⟩
  ·have hjl:=hj;rw [OU]at hj;have hj2:j<m2.length:=by have:=HLen.out;omega
   obtain⟨k1,k2⟩:=HAt.out j hj hj2;have hnx:∀ty,(Instr.next (.pointer (some ⟨w.heap.size,0,none⟩)) false ty).run Tryz.prog (w1.alloc (Yb b1 (Nk m1).length seen))=_:=fun _=>hrun
   have Y9:=hdr.trans Aao;have hsz2:w2.heap.size=w.heap.size:=by obtain⟨q,rfl⟩:=Y9;rfl
   have hen:=TI (P:=Tryz.prog) w2 b1 seen (Nk m1) (H1.out.below (Y9.below _)).map j hjl;rw [hsz2]at hen;rw [VK m1 j hjl hj]at hen hnx;obtain⟨W,hW⟩:∃W,W=w2.alloc (Yb b1 (Nk m1).length (seen.push j)):=⟨_,rfl⟩;have hbW:Below w.heap.size w W:=hW▸(Y9.below _).alloc (by omega) _;obtain⟨l1,l2,e1,e2⟩:=wC m2 HD2.out j hj2;have hlk:=XN (P:=Tryz.prog) Tryz.underlying55 Tryz.underlying9 W b2 l1 l2 m2[j].1 (lkV m2[j].2) (e1▸(H2.out.below hbW).map) e2;rw [<-k1]at hlk;have r1:=(H1.out.below hbW).rows _ (BD hj);have r2:=(H2.out.below hbW).rows _ (BD hj2);have HS:=Aa (Adi m1[j].2.l m1[j].2.A m2[j].2.A m1[j].2.c m2[j].2.c W (HL.out _ (BD hj)) r1.1 (by rw [k2];exact r2.1));unfold lkV at hlk hen hnx;rw [<-k2]at hlk;rw [<-hW]at hen hnx;have HB:=Aa hbW;have HW:=Aa hW;have HM:Hid ((leftOf (TF 0 (Nk m1)).toArray (seen.push j)).size<(leftOf (TF 0 (Nk m1)).toArray seen).size):=Aa hless;have HDr:=Aa Y9;have Hsz:=Aa hsz;have Adj:=Aa hsz2;generalize m1[j]=y1 at*;generalize m2[j]=y2 at*;clear hrun hsz K1 hdr Aao Y9 hsz2 hbW hW e1 e2 r1 r2 hless hl1 hl2 hrg t2 k1 k2 hns
   go_wp2_with fail
   refine HS.out.mono ?_;rintro e w5⟨rfl,Ajz⟩;have HD5:=Aa Ajz;clear Ajz HS hen hlk hnx
   go_wp2_with fail
   go_roundw
   case rel=>
    obtain⟨q,hq⟩:=HD5.out;refine⟨w2.drewN q,seen.push j,HDr.out.trans (Dr.one _ _),?_⟩;rw [hq,HW.out];rfl
   case measure=>
    obtain⟨q,hq⟩:=HD5.out;have e5:w5.iterSeen w.heap.size=seen.push j:=by
     rw [hq,HW.out];show((w2.drewN q).alloc (Yb b1 (Nk m1).length (seen.push j))).iterSeen w.heap.size=_;rw [show w.heap.size=(w2.drewN q).heap.size from Adj.out.symm];exact World.iterSeen_alloc _ _ _ _ _
    have e6:(w1.alloc (Yb b1 (Nk m1).length seen)).iterSeen w.heap.size=seen:=by
     rw [<-Hsz.out];exact World.iterSeen_alloc _ _ _ _ _
    rw [e5,e6];exact HM.out
theorem oN{X:Nat->Prop}{L:Nat}{s:St}{items:List Kv}(h:Ph X L s items):dU s=0:=by
 unfold dU;have:(Dn s.hd.length).map (fun i=>(GX (hdN s i)).length)=(Dn s.hd.length).map (fun _=>0):=Sj fun i hi=>by
  rw [List.mem_range,h.ok.jW]at hi;have:GX (hdN s i)=[]:=by
   rw [List.eq_nil_iff_forall_not_mem];intro a ha;exact h.nh _ _ ⟨i,a,hi,(Oh (h.ok.hd i hi)).1 ha,rfl,rfl⟩
  rw [this];rfl
 rw [this];generalize Dn s.hd.length=l;induction l with
 | nil=>rfl
 | cons a l ih=>rw [Bo,ZE,ih]
section
variable{w:World}{x d p L:Nat}{s:St}{F:Nat->Prop}{items:List Kv}{ch:List UInt8->List Lk}
theorem qU(h:Ix w x d p L s F):∃tb hb n cT cH,Gg w d p L s tb hb n cT cH:=by
 obtain⟨tb,hb,n,cT,cH,own,h,_⟩:=h.sys;exact⟨tb,hb,n,cT,cH,h.at⟩
theorem Ad7(h:Ix w x d p L s F):Calls Tryz.prog 22 #[.pointer (some ⟨p,0,none⟩)] w fun e w'=>∃A c,e= .returned (.slice A (IB s).length c)/\Below w.heap.size w w':=by
 obtain⟨tb,hb,n,cT,cH,hp⟩:=qU h;refine(zG hp).mono ?_;rintro e w1⟨v,rfl,ho,hb⟩;obtain⟨A,c,hv,_,hr⟩:=VI ho;subst hv;exact⟨A,c,rfl,hb⟩
theorem Aap(h:Ix w x d p L s F)(hs:Cm L s items ch):Calls Tryz.prog 24 #[.pointer (some ⟨p,0,none⟩)] w fun e w'=>e= .returned (.int .i64 0)/\Below w.heap.size w w':=by
 obtain⟨tb,hb,n,cT,cH,hp⟩:=qU h;refine(vI hp (by rw [hs.ix.ok.jW];have:=hp.YS;omega)).mono ?_;rintro e w1⟨rfl,hb⟩;rw [oN hs.ix];exact⟨rfl,hb⟩
theorem Adk(h:Ix w x d p L s F)(hs:Cm L s items ch):Calls Tryz.prog 25 #[.pointer (some ⟨x,0,none⟩)] w fun e w'=>∃A n c,e= .returned (.tuple #[.slice A n c,.int .i64 0])/\(IB s).length=n+((items.map fun kv=>ch kv.1).flatten).length/\(IB s).length<=65537/\Below w.heap.size w w':=by
 refine(Ve h).mono ?_;rintro e w1⟨hb,hp⟩;obtain⟨its,met,r,h1,_,_,_,h5,_,h7⟩:=jr hs;rw [h1]at hp;obtain⟨v,he,ho,hl⟩:=(hp:∃v,e= .returned (.tuple #[v,.int .i64 0])/\w1.ownsRow w.heap.size 3 1 v met.length ((Ad5 met).map (Value.int .i64))/\met.length<=65537);obtain⟨A,c,hv,_,_⟩:=VI ho;subst hv;refine⟨A,met.length,c,he,h7,?_,hb⟩;have hup:=VJ hs.ix.ok;have hn:(IB s).Nodup:=hup.imp (fun{a b}hab=>by omega);have hle:=Ky (IB s) (Dn 65537) hn (fun o ho=>by
  obtain⟨d,hd⟩:=(TB hs.ix.ok o).1 ho;have:=(hd.bounds hs.ix.ok).2.1;have:=hs.ix.ok.L1;exact List.mem_range.2 (by omega))
 rw [List.length_range]at hle;exact hle
def Adl(s:St)(it:It):List Lk:=(QG s it.v).getD []
theorem di (h : Ix w x d p L s F) (hs : Cm L s items ch) : Calls Tryz.prog 20 #[wV d p x] w fun e w' => ∃ mb m, e = .returned (.tuple #[.map (some mb), .bool true]) /\ Oj w' mb w.heap.size m /\ w.heap.size <= mb /\
    m.map (fun q => (q.1, q.2.l)) = items.map (fun kv => ((Y5 kv).k, ch kv.1)) /\ (m.map (·.1)).Nodup /\ Below w.heap.size w w' := by
  have hlk : ∀ kv ∈ items, QG s (Y5 kv).v = some (ch kv.1) := fun kv hkv => (hs.chain kv hkv).1.listed hs.ix.ok
  have hup := Afw hs.ix
  have hne : (items.map Y5).Pairwise (fun a b => a.k ≠ b.k) := hup.imp (fun {a b} hab e => by
    unfold yL at hab
    rw [e, Fa] at hab
    cases hab)
  refine (qR h (zT hs.ix) (Adl s) (fun it hit => by
    obtain ⟨kv, hkv, rfl⟩ := List.mem_map.1 hit
    unfold Adl
    rw [hlk kv hkv]
    rfl) hne).mono ?_
  rintro e w' ⟨mb, m, rfl, hm, hmb, he, hb⟩
  refine ⟨mb, m, rfl, hm, hmb, ?_, ?_, hb⟩
  · rw [he, FM]
    refine Sj fun kv hkv => ?_
    show ((Y5 kv).k, Adl s (Y5 kv)) = _
    unfold Adl
    rw [hlk kv hkv]
    rfl
  · have e1 : m.map (·.1) = (items.map Y5).map (·.k) := by
      have := congrArg (List.map Prod.fst) he
      simpa [FM, Function.comp_def] using this
    rw [e1]
    exact List.pairwise_map.2 hne
end
def J8(seen:Array Nat):Nat->List (ByteArray×Y6)->Nat
 | _,[]=>0
 | i,q::t=>(if seen.contains i then q.2.l.length else 0)+J8 seen (i+1) t
theorem Vg(seen:Array Nat)(j:Nat):∀(m:List (ByteArray×Y6))(i:Nat),j<i->J8 (seen.push j) i m=J8 seen i m
 | [],_,_=>rfl
 | q::t,i,h=>by
   have hx:(i==j)=false:=by rw [beq_eq_false_iff_ne];omega
   simp only [J8,contains_push,hx,Bool.or_false,Vg seen j t (i+1) (by omega)]
theorem XQ(seen:Array Nat)(j:Nat)(hs:seen.contains j=false):∀(m:List (ByteArray×Y6))(i:Nat)(_:i<=j)(h2:j-i<m.length),J8 (seen.push j) i m=J8 seen i m+m[j-i].2.l.length
 | [],_,_,h=>absurd h (by simp)
 | q::t,i,h1,h2=>by
   by_cases e:i=j
   ·subst e;simp only [J8,contains_push,hs,beq_self_eq_true,Bool.or_true,if_true,Bool.false_eq_true,if_false,Vg seen i t (i+1) (by omega),Nat.sub_self,List.getElem_cons_zero];omega
   ·have hx:(i==j)=false:=by rw [beq_eq_false_iff_ne];exact e
    have h3:j-i=(j- (i+1))+1:=by omega
    have hl:j- (i+1)<t.length:=by simp at h2;omega
    have:=XQ seen j hs t (i+1) (by omega) hl;simp only [J8,contains_push,hx,Bool.or_false,this];simp only [h3,List.getElem_cons_succ];omega
theorem Z9(seen:Array Nat):∀(m:List (ByteArray×Y6))(i:Nat),(∀j,j<m.length->seen.contains (i+j)=true)->J8 seen i m=(m.map fun q=>q.2.l.length).sum
 | [],_,_=>rfl
 | q::t,i,h=>by
   have h0:=h 0 (by simp);simp only [Nat.add_zero]at h0;simp only [J8,h0,if_true,Bo,ZE];rw [Z9 seen t (i+1) (fun j hj=>by have:=h (j+1) (by simpa using hj);rwa [show i+(j+1)=i+1+j by omega]at this)]
theorem XR:∀(m:List (ByteArray×Y6))(i:Nat),J8 #[] i m=0
 | [],_=>rfl
 | q::t,i=>by
   have:(#[]:Array Nat).contains i=false:=by simp
   simp only [J8,this,Bool.false_eq_true,if_false,XR t (i+1)]
theorem jM(seen:Array Nat):∀(m:List (ByteArray×Y6))(i:Nat),J8 seen i m<=(m.map fun q=>q.2.l.length).sum
 | [],_=>Nat.le_refl _
 | q::t,i=>by
   have:=jM seen t (i+1);simp only [J8,Bo,ZE];split<;>omega
theorem Oj.touch{w w':World}{mb base:Nat}{F:Nat->Prop}{m:List (ByteArray×Y6)}(h:Oj w mb base m)(hmb:base<=mb)(t:Touch F w w')(hF:∀b,F b->b<base):Oj w' mb base m:=
 ⟨(t.block _ h.map.lt (fun hf=>by have:=hF _ hf;omega)).trans h.map,fun q hq=>by
   obtain⟨h1,h2,h3⟩:=h.rows q hq;refine⟨Rd.touch h1 t (fun a ha hf=>by have:=hF _ hf;have:=(h3 a ha).1;omega),h2,fun a ha=>⟨(h3 a ha).1,Nat.lt_of_lt_of_le (h3 a ha).2.1 t.size,(h3 a ha).2.2⟩⟩⟩
end Go.Proofs.YtjcppneoncpdbaaGreatDoor
