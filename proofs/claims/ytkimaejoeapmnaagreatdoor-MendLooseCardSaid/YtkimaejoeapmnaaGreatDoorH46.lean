import Derived.Test.YtkimaejoeapmnaaGreatDoorH41
import Derived.Test.YtkimaejoeapmnaaGreatDoorH44
set_option linter.defProp false
set_option maxHeartbeats 32000000
set_option maxRecDepth 100000
open Go.Lib renaming hid->Aa
open List renaming range->D9,length_filter_le->MW,map_congr_left->FW,mem_range->Dy,map_cons->Cb,sum_cons->Al9,mem_map->Ba,map_map->Gp,mem_cons_self->Bh,length->LU,length_map->BJ,getElem?_map->BZ,getElem?_eq_getElem->Af,getElem_mem->BI
open Nat renaming le_trans->Bc
open Go.World renaming iterSeen->KY
namespace Go.Proofs.YtkimaejoeapmnaaGreatDoor
open Go.RowKit
open Go.Proofs.Tryz
def jf(a:List Int)(A B:Option Addr)(c d:Nat)(w:World)(hl:a.length<=100000)(ha:Rd w A a.length (TL a))(hb:Rd w B a.length (TL a)):
 Calls prog 21 #[.slice A a.length c,.slice B a.length d] w λe w'=>e= .returned (.bool true)/\Dr w w':=by
 have HA:=Aa ha;have HB:=Aa hb;obtain⟨n,hn⟩:∃n,n=a.length:=⟨_,rfl⟩;have HN:=Aa hn;rw [<-hn]at hl HA HB⊢;have t2:((n:Int)!=(n:Int))=false:=by simp
 clear ha hb hn;go_enter func21,ntmps21
 go_wp2_with fail
 go_loopw [13](λi wr=>∃k:Nat,k<=n/\i= .int .i64 (k:Nat)/\Dr w wr)(λi _=>n- (intOf i).toNat)
 case atStart=>exact⟨0,Nat.zero_le _,rfl,Dr.refl _⟩
 case round=>
  obtain⟨k,hk,rfl,hdr⟩:=hrel;have HD:=Aa hdr;clear hdr;by_cases hlt:k<n
  ·have hkl:k<a.length:=Ω HN.out
   obtain⟨ba,oa,rfl,_,qa⟩:=(Rd.below HA.out (HD.out.below _)).2 O;obtain⟨bb,ob,rfl,_,qb⟩:=(Rd.below HB.out (HD.out.below _)).2 O;have q1:wr.cell? (Δ ba (oa+k))=some (.int .i64 a[k]):=by rw [qa k hlt];simp [TL,hkl]
   have q2:wr.cell? (Δ bb (ob+k))=some (.int .i64 a[k]):=by rw [qb k hlt];simp [TL,hkl]
   obtain⟨hx1,hx2,hx5⟩:=Yg hlt;have hwk:=eX k O;have t3:(a[k]!=a[k])=false:=by simp
   clear qa qb;generalize a[k]=y at*
   go_wp2_with fail
   go_quiet(fail)
   go_wp2_with fail
   go_roundw
   case rel=>exact⟨k+1,O,by go_num,by first| exact HD.out.trans (Dr.one _ _)| exact HD.out⟩
   case measure=>simp [intOf];omega
  ·obtain⟨hx2,hx5⟩:=mQ hlt
   go_wp2_with fail
   go_ret;exact⟨rfl,HD.out⟩
section
variable{w:World}{d p L:Nat}{s:St}{tb hb n cT cH:Nat}
def LP(s:St)(i:Nat):Nat:=((D9 i).map λi=>(IC (hdN s i)).length).sum
def XZ(s:St)(i:Nat):LP s (i+1)=LP s i+(IC (hdN s i)).length:=by simp [LP,List.range_succ]
def jg(s:St):∀i,LP s i<=16*i
 | 0=>by simp [LP]
 | i+1=>by
   rw [XZ];have:=jg s i;have:(IC (hdN s i)).length<=16:=Bc (MW _ _) (by simp [Gi]);omega
def Aet(h:Ig w d p L s tb hb n cT cH)(hnh:s.hd.length=n):Calls prog 63 #[Az p] w λe w'=>e= .returned (.int .i64 (oh s:Nat))/\η w w':=by
 have Tn:=Aa (Gx h);have HP:=Aa h;have y6:=h.y6;have Aj3:n<=64:=Ξ h.ok.fits h.L1 h.bZ
 have hall:oh s=LP s n:=by unfold oh LP;rw [hnh]
 rw [hall];clear h hall;go_enter func63,ntmps63
 go_wp2_with fail
 refine Tn.out.mono ?_;rintro e w1⟨rfl,rfl⟩;clear Tn
 go_wp2_with fail
 go_loopw [3,13](λu i wr=>∃k:Nat,k<=n/\i= .int .i64 (k:Nat)/\u= .int .i64 (LP s k:Nat)/\η w wr)(λ_ i _=>n- (intOf i).toNat)
 case atStart=>exact⟨0,Nat.zero_le _,rfl,rfl,Below.refl _ _⟩
 case round=>
  obtain⟨k,hk,rfl,rfl,hb⟩:=hrel;have HB:=Aa hb;clear hb;by_cases hlt:k<n
  ·obtain⟨hx1,hx2,hx5⟩:=Yg hlt;have hwk:IntKind.i64.wrap ((k:Int)+1)=(k:Int)+1:=wrap64 _ O O;have z1:=(HP.out.below HB.out).hd k hlt;have hx:=JV s k;have UQ:=Aa (ik (hdN s k) wr hx);have UN:Hid (LP s (k+1)=LP s k+(IC (hdN s k)).length):=Aa (XZ s k);have hl1:=jg s k;have hll:(IC (hdN s k)).length<=16:=Bc (MW _ _) (by simp [Gi]);have hwm:IntKind.i64.wrap ((LP s k:Int)+((IC (hdN s k)).length:Int))=(LP s k:Int)+((IC (hdN s k)).length:Int):=wrap64 _ O O;generalize IC (hdN s k)=l at*;generalize hdN s k=x at*;generalize LP s k=M at*
   go_wp2_with fail
   refine UQ.out.mono ?_;rintro e w2⟨v,rfl,hO,hb2⟩;obtain⟨A2,c2,rfl,_,_⟩:=Aa0 hO;have HB2:=Aa (τ HB.out hb2);clear hO hb2 UQ
   go_wp2_with fail
   go_roundw
   case rel=>exact⟨k+1,O,by go_num,by rw [UN.out];go_num,HB2.out⟩
   case measure=>simp [intOf];omega
  ·have hkn:k=n:=O
   subst hkn;have hx2:decide ((k:Int)<(k:Int))=false:=decide_eq_false O;have hx5:decide (k<k)=false:=decide_eq_false O
   go_wp2_with fail
   go_ret;exact⟨rfl,HB.out⟩
end
def zn{X:Nat->Prop}{L:Nat}{s:St}{items:List Kv}(h:Ox X L s items):oh s=0:=by
 unfold oh;have:(D9 s.hd.length).map (λi=>(IC (hdN s i)).length)=(D9 s.hd.length).map (λ_=>0):=FW λi hi=>by
  rw [Dy,h.ok.mX]at hi;have:IC (hdN s i)=[]:=by
   rw [List.eq_nil_iff_forall_not_mem];intro a ha;exact h.nh _ _ ⟨i,a,hi,(PS (h.ok.hd i hi)).1 ha,rfl,rfl⟩
  rw [this];rfl
 rw [this];generalize D9 s.hd.length=l;induction l with
 | nil=>rfl
 | cons a l ih=>rw [Cb,Al9,ih]
section
variable{w:World}{x d p L:Nat}{s:St}{F:Nat->Prop}{items:List Kv}{ch:List UInt8->List Lk}
def Alv(h:Ix w x d p L s F):∃tb hb n cT cH,Ig w d p L s tb hb n cT cH:=by
 obtain⟨tb,hb,n,cT,cH,own,h,_⟩:=h.sys;exact⟨tb,hb,n,cT,cH,h.at⟩
def Aps(h:Ix w x d p L s F)(hs:Ce L s items ch):Calls prog 63 #[Az p] w λe w'=>e= .returned (.int .i64 0)/\η w w':=by
 obtain⟨tb,hb,n,cT,cH,hp⟩:=Alv h;refine(Aet hp (by rw [hs.ix.ok.mX];have:=hp.bZ;omega)).mono ?_;rintro e w1⟨rfl,hb⟩;rw [zn hs.ix];exact⟨rfl,hb⟩
def Aly(s:St)(it:It):List Lk:=(Iq s it.v).getD []
def mi (h : Ix w x d p L s F) (hs : Ce L s items ch) : Calls prog 16 #[wV d p x] w λe w' => ∃ mb m, e = .returned (.tuple #[.map (some mb), .bool true]) /\ QV w' mb w.heap.size m /\ w.heap.size <= mb /\
    m.map (λq => (q.1, q.2.l)) = items.map (λkv => ((Xk kv).k, ch kv.1)) /\ (m.map (·.1)).Nodup /\ η w w' := by
  have hlk : ∀ kv ∈ items, Iq s (Xk kv).v = some (ch kv.1) := λkv hkv => (hs.chain kv hkv).1.listed hs.ix.ok
  have hup := Aoq hs.ix
  have hne : (items.map Xk).Pairwise (λa b => a.k ≠ b.k) := hup.imp (λ{a b} hab e => by
    unfold Ags at hab
    rw [e, EL] at hab
    cases hab)
  refine (Alj h (Aop hs.ix) (Aly s) (λit hit => by
    obtain ⟨kv, hkv, rfl⟩ := Ba.1 hit
    unfold Aly
    rw [hlk kv hkv]
    rfl) hne).mono ?_
  rintro e w' ⟨mb, m, rfl, hm, hmb, he, hb⟩
  refine ⟨mb, m, rfl, hm, hmb, ?_, ?_, hb⟩
  · rw [he, Gp]
    refine FW λkv hkv => ?_
    show ((Xk kv).k, Aly s (Xk kv)) = _
    unfold Aly
    rw [hlk kv hkv]
    rfl
  · have e1 : m.map (·.1) = (items.map Xk).map (·.k) := by
      have := congrArg (List.map Prod.fst) he
      simpa [Gp, Function.comp_def] using this
    rw [e1]
    exact List.pairwise_map.2 hne
end
def Ya{L:Nat}{s:St}{items:List Kv}{ch:List UInt8->List Lk}(hs:Ce L s items ch):((items.map λkv=>ch kv.1).flatten).length<=(DC s).length/\(DC s).length<=65537/\((DC s).length=0->items=[]):=by
 obtain⟨its,met,r,h1,_,_,_,h5,_,h7⟩:=bz hs;have hup:=QD hs.ix.ok;have hn:(DC s).Nodup:=hup.imp (λ{a b}hab=>O);have hle:=FU (DC s) (D9 65537) hn (λo ho=>by
  obtain⟨d,hd⟩:=(IK hs.ix.ok o).1 ho;have:=(hd.bounds hs.ix.ok).2.1;have:=hs.ix.ok.L1;exact Dy.2 O)
 rw [List.length_range]at hle;refine⟨O,hle,λh0=> ?_⟩;have h8:((items.map λkv=>ch kv.1).flatten).length=0:=O
 cases items with
 | nil=>rfl
 | cons kv t=>
   have hne:=VH (hs.chain kv (Bh ..)).1 (hs.chain kv (Bh ..)).2;rw [List.length_eq_zero_iff]at h8;rw [Cb,List.flatten_cons,List.append_eq_nil_iff]at h8;exact absurd h8.1 hne
def Abe:∀{l:List Nat}{a:Nat},a∈l->a<=l.sum
 | b::t,a,h=>by
   rw [Al9];rcases List.mem_cons.1 h with rfl| h
   ·omega
   ·have:=Abe h;omega
def Ait{m:List (ByteArray×LkV)}{items:List Kv}{ch:List UInt8->List Lk}(he:m.map (λq=>(q.1,q.2.l))=items.map (λkv=>((Xk kv).k,ch kv.1))):(m.map λq=>q.2.l.length).sum=((items.map λkv=>ch kv.1).flatten).length/\m.length=items.length/\∀q∈m,q.2.l.length<=((items.map λkv=>ch kv.1).flatten).length:=by
 have e1:m.map (λq=>q.2.l.length)=items.map (λkv=>(ch kv.1).length):=by
  have:=congrArg (List.map (λq:ByteArray×List Lk=>q.2.length)) he;simpa [Gp,Function.comp_def]using this
 have e2:(m.map λq=>q.2.l.length).sum=((items.map λkv=>ch kv.1).flatten).length:=by
  rw [e1,List.length_flatten,Gp];rfl
 refine⟨e2,by simpa using congrArg LU he,λq hq=> ?_⟩;rw [<-e2];exact Abe (Ba.2 ⟨q,hq,rfl⟩)
def QV.touch{w w':World}{mb base:Nat}{F:Nat->Prop}{m:List (ByteArray×LkV)}(h:QV w mb base m)(hmb:base<=mb)(t:Touch F w w')(hF:∀b,F b->b<base):QV w' mb base m:=
 ⟨(t.block _ h.map.lt (λhf=>Ω (hF _ hf))).trans h.map,λq hq=>by
   obtain⟨h1,h2,h3⟩:=h.rows q hq;refine⟨Rd.touch h1 t (λa ha hf=>Ψ (hF _ hf) ((h3 a ha).1)),h2,λa ha=>⟨(h3 a ha).1,Nat.lt_of_lt_of_le (h3 a ha).2.1 t.size,(h3 a ha).2.2⟩⟩⟩
def Aiu{w:World}{x d p L:Nat}{s:St}{F:Nat->Prop}{items:List Kv}{ch:List UInt8->List Lk}(h:Ix w x d p L s F)(hs:Ce L s items ch)(hst:∀k,∀y∈ch k,y.rc.stamp.toNat<=(s.ws 8).toNat):
 Calls prog 20 #[Az d,.agg #[Az p,Az x,.int .u64 ((s.ws 8).toNat:Int)]] w λe w'=>e= .returned (.bool true)/\η w w':=by
 obtain⟨its,met,r,q1,_,q3,q4,q5,q6,_⟩:=bz hs;obtain⟨w0,hw0,hb0,B0⟩:=EZ w 30 [Az p,Az x,.int .u64 ((s.ws 8).toNat:Int)];obtain⟨n,hn⟩:∃n,n=(DC s).length:=⟨_,rfl⟩;have hrn:r.length=n:=by rw [<-KF r,q5,BJ,hn]
 have hn1:n<=100000:=O
 have hRe:=TC (h.below hb0) q1 q3 q4 q6;rw [hrn,q5]at hRe;have HRe:=Aa hRe;have HX:=Aa h;have HS:=Aa hs;have HN:=Aa hn;have MX:Hid (∀kv∈items,∃a t,ch kv.1=a::t/\a.rc.stamp.toNat<=(s.ws 8).toNat):=Aa (λkv hkv=>by
  obtain⟨hc,hz⟩:=hs.chain kv hkv;cases hch:ch kv.1 with
  | nil=>exact absurd hch (VH hc hz)
  | cons a t=>exact⟨a,t,rfl,hst kv.1 a (by rw [hch];exact Bh ..)⟩)
 have xA:Hid (8<8*L):=Aa (Ξ hs.ix.ok.sh.fits hs.ix.ok.sh.Le hs.ix.ok.sh.BM);have HB0:=Aa hb0;have HK0:=Aa B0;have HM:Hid (∀W,η w0 W->W.cell? (Φ w.heap.size)=some (Az p)/\W.cell? (Δ w.heap.size 1)=some (Az x)/\W.cell? (Δ w.heap.size 2)=some (.int .u64 ((s.ws 8).toNat:Int))):=Aa (λW k=>by
  have h1:=HK0.out.ξ k;exact⟨h1.cell 0,h1.cell 1,h1.cell 2⟩)
 obtain⟨z0,z1,z2⟩:=HM.out w0 (Below.refl _ _);rw [hw0]at z0 z1 z2;have HW0:=Aa hw0;have t6:((((s.ws 8).toNat:Nat):Int)!=(((s.ws 8).toNat:Nat):Int))=false:=by simp
 clear h hs hst q1 q3 q4 q5 q6 hRe hrn hn hb0 B0 hw0;go_enter func20,ntmps20
 go_wp2_with fail
 rw [<-HW0.out];refine HRe.out.mono ?_;rintro e w1⟨v1,rfl,ho1,hb1⟩;obtain⟨A1,c1,rfl,hc1,hr1⟩:=DL ho1;have HR1:=Aa hr1;have HB1:=Aa hb1;have HX1:=Aa (HX.out.below (τ HB0.out hb1));have HLd:=Aa (HX1.out.sys.load 8 xA.out);rw [show((8*8:Nat):Int)=64 from rfl]at HLd;have UO:=Aa (show Calls prog 17 #[Az p] w1 λe w'=>∃v,e= .returned v/\w'.ownsRow w1.heap.size 3 1 v (DC s).length (VB (DC s))/\η w1 w' from by
  obtain⟨tb,hb,n,cT,cH,own,hr, -⟩:=HX1.out.sys;exact RV hr.at)
 rw [<-HN.out]at UO;clear HRe ho1 hr1 hb1 hc1 z0 z1 z2;obtain⟨z0,z1,z2⟩:=HM.out w1 HB1.out
 go_wp2_with fail
 refine HLd.out.mono ?_;rintro e w1'⟨rfl,rfl⟩;clear HLd
 go_wp2_with fail
 refine UO.out.mono ?_;rintro e w2⟨v2,rfl,ho2,hb2⟩;obtain⟨A2,c2,rfl,hc2,hr2⟩:=DL ho2;have At1:=Aa (HR1.out.below hb2);have hnl:((DC s).map Int.ofNat).length=n:=by rw [BJ,HN.out]
 have HSm:=jf ((DC s).map Int.ofNat) A1 A2 c1 c2 w2 O (by have h:=At1.out;rw [Nat.mul_one]at h;rw [hnl];exact h) (by have h:=hr2;rw [Nat.mul_one]at h;rw [hnl];simpa [VB,TL,Gp,Function.comp_def]using h);rw [hnl]at HSm;have HSm:=Aa HSm;have HB2:=Aa (τ HB1.out hb2);clear UO ho2 hr2 hb2 hc2 hnl z0 z1 z2 HR1 At1
 go_wp2_with fail
 refine HSm.out.mono ?_;rintro e w3⟨rfl,At3⟩;have HB3:=Aa (τ HB2.out (At3.below _));have HX3:=Aa (HX.out.below (τ HB0.out HB3.out));have HHe:=Aa (Aps HX3.out HS.out);obtain⟨z0,z1,z2⟩:=HM.out w3 HB3.out;clear At3 HSm
 go_wp2_with fail
 refine HHe.out.mono ?_;rintro e w4⟨rfl,hb4⟩;have HB4:=Aa (τ HB3.out hb4);have UQ:=Aa (mi (HX3.out.below hb4) HS.out);unfold wV at UQ;clear hb4 HHe z0 z1 z2;obtain⟨z0,z1,z2⟩:=HM.out w4 HB4.out
 go_wp2_with fail
 refine UQ.out.mono ?_;rintro e w5⟨mb,m,rfl,hm,hmb,hme,hnd,hb5⟩;have Jz:=Aa (τ HB0.out (τ HB4.out hb5));have HMe:=Aa hme;have HMm:=Aa hm;obtain⟨w6,hw6⟩:∃w6,w6=w5.alloc (uS mb (QU m).length #[]):=⟨_,rfl⟩;have Me:Hid (η w5 w6):=Aa (hw6▸(Below.refl _ _).alloc (Nat.le_refl _) _);have HI6:Hid (w6.heap[w5.heap.size]? =some (uS mb (QU m).length #[])):=Aa (by rw [hw6];exact heap_alloc_new _ _);have hrg:=QF (P:=prog) underlying55 w5 mb (QU m) hm.map;rw [<-hw6]at hrg;clear UQ hm hmb hme hnd hb5 hw6 z0 z1 z2
 go_wp2_with fail
 go_loopw [](λwr=>∃seen:Array Nat,wr.heap[w5.heap.size]? =some (uS mb (QU m).length seen)/\η w5 wr)(λwr=>(leftOf (PD 0 (QU m)).toArray (wr.iterSeen w5.heap.size)).size)
 case atStart=>exact⟨#[],HI6.out,Me.out⟩
 case round=>
  obtain⟨seen,hit,hb⟩:=hrel;have hsn:wr.iterSeen w5.heap.size=seen:=by unfold KY;rw [hit];rfl
  clear hrg;rcases QG (P:=prog) wr 0 w5.heap.size mb seen (QU m) (HMm.out.below hb).map hit with⟨_,hrun⟩| ⟨j,hj,W,hns,hless,hT,hsz,lY,hrun,hen⟩
  ·have hnx:∀ty,(Instr.next (Az w5.heap.size) false ty).run prog wr=_:=λ_=>hrun
   have HB:=Aa (τ Jz.out hb);clear hrun hb hit
   go_wp2_with fail
   go_ret;exact⟨rfl,HB.out⟩
  ·have hbW:η w5 W:=hb.trans (hT.below hb.size (λb e=>by rw [e];exact Nat.le_refl _));have hnx:∀ty,(Instr.next (Az w5.heap.size) false ty).run prog wr=_:=λ_=>hrun
   have hjm:j<m.length:=by rw [VO]at hj;exact hj
   have hji:j<items.length:=by have:=congrArg LU HMe.out;simp at this;omega
   rw [Aa8 m j hj hjm]at hen hnx;unfold lkV at hen hnx;have hmj:m[j].2.l=ch items[j].1:=by
    have h1:(m.map λq=>(q.1,q.2.l))[j]? =(items.map λkv=>((Xk kv).k,ch kv.1))[j]? :=by rw [HMe.out]
    rw [BZ,BZ,Af hjm,Af hji]at h1;simp only [Option.map_some,Option.some.injEq,Prod.mk.injEq]at h1;exact h1.2
   obtain⟨a,t,hch,hle⟩:=MX.out _ (BI hji);have r1:=((HMm.out.below hbW).rows _ (BI hjm)).1;have hl0:0<m[j].2.l.length:=by rw [hmj,hch];simp
   obtain⟨b,off,hA,_,_,u1,_⟩:=LkR.at r1 0 hl0;rw [Nat.zero_mul,Nat.add_zero]at u1;have Awp:m[j].2.l[0].rc.stamp.toNat<=(s.ws 8).toNat:=by
    have e1:m[j].2.l[0]=a:=by
     have h1:m[j].2.l[0]? =(a::t)[0]? :=by rw [hmj,hch]
     rw [Af hl0]at h1;simpa using h1
    rw [e1];exact hle
   generalize m[j].2.l[0].rc.stamp=st at*;rw [hA]at hen hnx;obtain⟨n2,hn2⟩:∃n2,n2=m[j].2.l.length:=⟨_,rfl⟩;rw [<-hn2]at hl0 hen hnx;have t0:((n2:Int)==0)=false:=by rw [beq_eq_false_iff_ne];omega
   have t1:decide (((s.ws 8).toNat:Int)<(st.toNat:Int))=false:=decide_eq_false O;have t2:decide ((s.ws 8).toNat<st.toNat)=false:=decide_eq_false O;have HB:=Aa hbW;have HIt:=Aa lY;have HMs:Hid ((leftOf (PD 0 (QU m)).toArray (seen.push j)).size<(leftOf (PD 0 (QU m)).toArray (wr.iterSeen w5.heap.size)).size):=Aa (by rw [hsn];exact hless);generalize m[j]=y at*;clear hrun hb hit hT hsz lY hbW hless hns hsn hmj hch hle r1 Awp hn2 hA
   go_wp2_with fail
   go_roundw
   case rel=>exact⟨seen.push j,HIt.out,HB.out⟩
   case measure=>
    have e5:W.iterSeen w5.heap.size=seen.push j:=by unfold KY;rw [HIt.out];rfl
    rw [e5];exact HMs.out
