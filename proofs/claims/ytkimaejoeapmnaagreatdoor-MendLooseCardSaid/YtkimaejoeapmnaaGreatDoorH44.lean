import Derived.Sort.OwnSortedInts
import Derived.Test.YtkimaejoeapmnaaGreatDoorH40
set_option linter.defProp false
set_option maxHeartbeats 32000000
set_option maxRecDepth 100000
open List renaming map_append->Dx,length_mergeSort->uI,getElem?_eq_some_iff->Cc,length_append->AQ,length_map->BJ,length_take->Dw,take_length->Nc,getElem?_eq_getElem->Af,getElem?_map->BZ,getElem_of_mem->CB,any_eq_false->PT,any_eq_true->YR,getElem_mem->BI,pairwise_iff_getElem->Ku,mem_append->AL,mem_singleton->BD
open Array renaming getElem?_eq_some_iff->AB
open Go.Lib renaming hid->Aa
open Nat renaming le_refl->Ad,zero_le->BU,lt_or_ge->Il
open Option renaming map_some->DT
namespace Go.Proofs.YtkimaejoeapmnaaGreatDoor
open Go.Proofs.Tryz
open Go.RowKit Go.Maps Go.Shelf
def TL(l:List Int):List Value:=l.map (Value.int .i64)
def Alm(a b:List Int):TL (a++b)=TL a++TL b:=Dx
def KF(l:List Int):(Df l).length=l.length:=uI _
def Aln(l:List Int):∀u∈TL l,u.oneCell'=true:=λu hu=>by
 obtain⟨a,_,rfl⟩:=List.mem_map.1 hu;rfl
def Aig{w:World}{base:Nat}{v:Value}(ss:List Int)(h:w.ownsRow base 3 1 v ss.length (TL ss))(hb:base<=w.heap.size)(hs:ss.length<=1000000000):
 Calls prog 41 #[v] w λe w'=>e= .returned (.tuple #[])/\w'.ownsRow base 3 1 v ss.length (TL (Df ss))/\Below base w w':=by
 rcases h.2 with⟨rfl,h2⟩| ⟨g,cap,cur,rfl,hB,hg,hnc,hcm,hcs,ht⟩
 ·have he:ss=[]:=List.eq_nil_of_length_eq_zero h2;subst he;refine(AnyM.slices_Sort_int_none Tryz.sortA none 0 w).mono ?_;rintro e w'⟨rfl,rfl⟩;exact⟨rfl,by simpa [Df,TL]using h,Below.refl _ _⟩
 ·rw [Nat.mul_one]at ht;refine(AnyM.slices_Sort_int Tryz.sortA g 0 cap ss w (holds_of_blockI hg ht) (AB.1 hg).1 O).mono ?_;rintro e w'⟨rfl,n,os,rfl⟩;refine⟨rfl,ownsRow_sortedI (uI _) hB hg hnc hcm hcs,?_⟩;exact(Below.refl _ _).grown (grownBy_sortedI _) hb (λk hk=>by injection hk with hk;omega)
def Aih{w:World}{A:Option Addr}{c:Nat}(l:List Int)(hr:Rd w A (l.length*1) (TL l))(hs:l.length<=100000):
 Calls prog 39 #[.slice A l.length c] w λe w'=>∃u,e= .returned u/\w'.ownsRow w.heap.size 3 1 u l.length (TL l)/\η w w':=by
 have q1:=λW=>Lib.run_eql_slice_nil (P:=prog) W 38 3 A l.length c 0 0 underlying38
 cases A with
 | none=>
   have hs0:l=[]:=by
    by_cases e:l=[]
    ·exact e
    ·obtain⟨b,off,e2,_⟩:=hr.2 (Ω (List.length_pos_iff.2 e));cases e2
   subst hs0;simp only [List.length_nil]at q1;clear hr;go_enter func39,ntmps39
   go_wp2_with fail
   go_ret;exact⟨_,rfl,⟨by simp [TL],.inl ⟨rfl,rfl⟩⟩,Below.refl _ _⟩
 | some a=>
   have HR:=Aa hr;have HC:=Aa hs;have hb0:η w (w.alloc (.cells #[] 3)):=(Below.refl _ _).alloc (Ad _) _;have HB0:=Aa hb0;have HO:Hid ((w.alloc (.cells #[] 3)).ownsRow w.heap.size 3 1 (.slice (some (Φ w.heap.size)) 0 0) 0 []):=Aa ⟨rfl,.inr ⟨w.heap.size,0,#[],rfl,Ad _,heap_alloc_new _ _,Ad _,by decide,rfl,rfl⟩⟩;clear hb0 hr hs;go_enter func39,ntmps39
   go_wp2_with(at_builtin;refine JM rfl (.tmp 5) (.tmp 6) 38 rfl Tryz.WO U w.heap.size (.slice (some (Φ w.heap.size)) 0 0) 0 [] rfl HO.out (some a) l.length c (TL l) rfl (Rd.below HR.out HB0.out) (Aln l) (Ω HC.out) U Θ ?_;intro v' w' hO hB hK)
   go_ret;exact⟨_,rfl,by simpa using hO,HB0.out.trans hB⟩
end Go.Proofs.YtkimaejoeapmnaaGreatDoor
namespace Go.Proofs.YtkimaejoeapmnaaGreatDoor
open Go.Proofs.Tryz
open Go.RowKit
def zi{w:World}{base n k c:Nat}{A:Option Addr}{e:TypeId}{xs:List Value}(h:w.ownsRow base e k (.slice A n c) n xs):∀a,A=some a->base<=a.block/\a.block<w.heap.size:=λa ea=>by
 rcases h.2 with⟨h1,_⟩| ⟨g,cap,cur,h1,h2,h3,_⟩
 ·simp only [Value.slice.injEq]at h1;rw [h1.1]at ea;cases ea
 ·simp only [Value.slice.injEq]at h1;rw [h1.1]at ea;injection ea with ea
  rw [<-ea];exact⟨h2,(AB.1 h3).1⟩
def Alo{w:World}{base n k:Nat}{v:Value}{e:TypeId}{xs:List Value}(h:w.ownsRow base e k v n xs):∀g,v.ownBlock=some g->base<=g/\g<w.heap.size:=λg eg=>by
 rcases h.2 with⟨h1,_⟩| ⟨g',cap,cur,h1,h2,h3,_⟩
 ·rw [h1]at eg;cases eg
 ·rw [h1]at eg;injection eg with eg
  rw [<-eg];exact⟨h2,(AB.1 h3).1⟩
def Rd.kept{w w':World}{A:Option Addr}{n:Nat}{xs:List Value}{r:Option Nat}(h:Rd w A n xs)(k:Kept w w' r)(hr:∀a,A=some a->r≠some a.block):Rd w' A n xs:=by
 refine⟨h.1,λhn=> ?_⟩;obtain⟨b,off,e,hb,hc⟩:=h.2 hn;exact⟨b,off,e,Nat.lt_of_lt_of_le hb k.1,λj hj=>(World.cell?_of_block (w:=w) (k.2 b hb (λe2=>hr _ e e2.symm))).trans (hc j hj)⟩
def Ael{l:List Int}(h:Gz l=true){i:Nat}{a b:Int}(ha:l[i]? =some a)(hb:l[i+1]? =some b):a≠b:=by
 obtain⟨h1,e1⟩:=Cc.1 ha;obtain⟨h2,e2⟩:=Cc.1 hb;have:=fD h i h2
 rwa [e1,e2]at this
def zk{w:World}{A:Option Addr}{l:List (List UInt8×UInt64)}(h:Rd w A (l.length*2) ((l.map itV).flatten))(k:Nat)(hk:k<l.length):∃b off,A=some (Δ b off)/\b<w.heap.size/\w.cell? (Δ b (off+k*2))=some (.string ⟨l[k].1.toArray⟩)/\w.cell? (Δ b (off+k*2+1))=some (.int .u64 (l[k].2.toNat:Int)):=by
 obtain⟨b,off,e,hb,hc⟩:=h.2 O;have key:∀i,i<2->w.cell? (Δ b (off+k*2+i))=(itV l[k])[i]? :=λi hi=>by
  rw [Nat.add_assoc,hc (k*2+i) O];exact flat_get itV 2 (λ_=>rfl) l k i hk hi
 exact⟨b,off,e,hb,key 0 U,key 1 U⟩
section
variable{w w':World}{x d p L:Nat}{s:St}{F:Nat->Prop}
def iZ(s:St)(w:World)(e:Ending)(w':World):Prop:=
 η w w'/\match NT s with
  | none=>e= .returned (.tuple #[.slice none 0 0,.int .i64 5])
  | some r=>∃v,e= .returned (.tuple #[v,.int .i64 0])/\w'.ownsRow w.heap.size 3 1 v r.length (TL r)
def bJ(h:Ix w x d p L s F){items:List (List UInt8×UInt64)}{met:List Int}(hs:DJ s=some (items,met))(hfew:∀k acc,k<=items.length->Fv s (items.take k) (Df met)=some acc->acc.length<=100000):
 Calls prog 10 #[Az d,Az p,Az x] w (iZ s w):=by
 have hrp:NT s=match Fv s items (Df met)with| none=>none| some l=>if Gz (Df l)=true then some (Df l)else none:=by unfold NT;rw [hs];rfl
 have hL0:=h.sys.pos.1;have t0:(((L*64:Nat):Int)==0)=false:=by rw [beq_eq_false_iff_ne];omega
 have hsz:=h.sys.size;generalize L*64=sz at hsz t0;have mZ:=Aa hsz;have HN:=Aa (XT h);have HX:=Aa h;have HS:=Aa hs;have HL:=Aa hfew;have HRp:=Aa hrp;clear hsz h hs hfew hrp hL0;go_enter func10,ntmps10
 go_wp2_with fail
 refine mZ.out.mono ?_;rintro e w0⟨rfl,rfl⟩;clear mZ
 go_wp2_with fail
 refine HN.out.mono ?_;rintro e w1⟨hb1,hp1⟩;rw [HS.out]at hp1;obtain⟨v1,rfl,ho1,hm1⟩:=hp1;obtain⟨A1,c1,rfl,hc1,hr1⟩:=DL ho1;rw [show(Ams met).map (Value.int .i64)=TL (Df met)from rfl]at hr1;have HB1:=Aa hb1;have HR1:=Aa hr1;have tY:=Aa (Tv (HX.out.below hb1));clear HN ho1 hb1 hr1 hc1
 go_wp2_with fail
 refine tY.out.mono ?_;rintro e w2⟨hb2,hp2⟩;rw [HS.out]at hp2;obtain⟨v2,rfl,ho2,hm2⟩:=hp2;obtain⟨A2,c2,rfl,hc2,hr2⟩:=DL ho2;have HB2:=Aa (τ HB1.out hb2);have HR2:=Aa hr2;have Ape:=Rd.below HR1.out hb2;have HLm:Hid ((Df met).length<=100000):=Aa (HL.out 0 _ (BU _) rfl);rw [show met.length=(Df met).length from(KF met).symm]at Ape;rw [show met.length=(Df met).length from(KF met).symm];have QX:=Aa (Aih (c:=c1) (Df met) Ape HLm.out);clear tY ho2 hb2 hr2 hc2 Ape HR1
 go_wp2_with fail
 refine QX.out.mono ?_;rintro e w3⟨v3,rfl,ho3,hb3⟩;have HB3:=Aa hb3;have kF:=Aa ho3;clear QX hb3 ho3
 go_wp2_with fail
 go_loopw [11,50](λu i wr=>∃(k:Nat)(acc:List Int),k<=items.length/\i= .int .i64 (k:Nat)/\Fv s (items.take k) (Df met)=some acc/\acc.length<=100000/\wr.ownsRow w2.heap.size 3 1 u acc.length (TL acc)/\η w2 wr)(λ_ i _=>items.length- (intOf i).toNat)
 case atStart=>exact⟨0,Df met,BU _,rfl,rfl,HLm.out,kF.out,HB3.out⟩
 case round=>
  obtain⟨k,acc,hk,rfl,hac,hal,hown,hb⟩:=hrel;have HOr:=Aa hown;have Nr:=Aa hb;have HAc:=Aa hac;clear hown hb kF HB3 hac;by_cases hlt:k<items.length
  ·obtain⟨b,off,rfl,hbw,q0,q1⟩:=zk (Rd.below HR2.out Nr.out) k hlt;obtain⟨hx1,hx2,hx5⟩:=Yg hlt;have hwk:=eX k O;have cu:=Aa (vN hlt HAc.out);have HL1:=Aa (λacc=>HL.out (k+1) acc hlt);obtain⟨⟨ky,vl⟩,hit⟩:∃it,it=items[k]:=⟨_,rfl⟩;rw [<-hit]at q0 q1 cu;simp only at q0 q1 cu;obtain⟨w4,hw4,hb4, -⟩:=EZ wr 104 [.string ⟨ky.toArray⟩,.int .u64 (vl.toNat:Int)];have HB4:=Aa (τ Nr.out hb4);have bY:=Aa (LJ HOr.out hb4);have Aii:=τ HB2.out HB4.out;have UQ:=Aa (Tq (HX.out.below Aii).sys vl);have YE:=Aa hw4;clear hit hw4 hb4 Aii HOr Nr
   go_wp2_with fail
   rw [<-YE.out];refine UQ.out.mono ?_;rintro e w5⟨hb5,hp5⟩;cases hm:Iq s vl with
   | none=>
     rw [hm]at hp5;have Tn:Hid (NT s=none):=Aa (by
      have h1:=cu.out;rw [hm]at h1;rw [HRp.out,vO hlt h1])
     have Jz:=Aa (τ HB2.out (τ HB4.out hb5));subst hp5;clear UQ hb5 bY HB4 cu
     go_wp2_with fail
     go_ret2;refine⟨Jz.out,?_⟩;rw [Tn.out];rfl
   | some m=>
     rw [hm]at hp5 cu;obtain⟨XV,v5,rfl,UM⟩:=hp5;have rV:Hid ((acc++m.map (·.off)).length<=100000):=Aa (HL1.out _ cu.out);clear hm;have hfew:=XV.few;have HOb:=Alo bY.out;obtain⟨A5,c5,rfl,hc5,mV⟩:=VA UM;have hap:∀a,A5=some a->a.block<w5.heap.size/\u11.ownBlock≠some a.block:=λa ea=>by
      obtain⟨h1,h2⟩:=zi UM a ea;exact⟨h2,λe=>Ω ((HOb _ e).2)⟩
     have HAp:=Aa hap;have uK:=Aa mV;have Jz:=Aa (τ HB4.out hb5);have fE:=Aa (LJ bY.out hb5);clear UQ UM hb5 mV hap HOb XV bY HB4 hc5
     go_wp2_with fail
     go_loopw [11,67](λu i wr=>∃j:Nat,j<=m.length/\i= .int .i64 (j:Nat)/\wr.ownsRow w2.heap.size 3 1 u (acc++(m.take j).map (·.off)).length (TL (acc++(m.take j).map (·.off)))/\η w2 wr/\LkR wr A5 m/\∀a,A5=some a->a.block<wr.heap.size/\u.ownBlock≠some a.block)(λ_ i _=>m.length- (intOf i).toNat)
     case atStart=>exact⟨0,BU _,rfl,by simpa using fE.out,Jz.out,uK.out,HAp.out⟩
     case round=>
      obtain⟨j,hj,rfl,hown,hb,hrd,hap⟩:=hrel;have kP:=Aa hown;have Me:=Aa hb;have uP:=Aa hrd;have Apf:=Aa hap;clear hown hb hrd hap HAp fE Jz uK;by_cases hjl:j<m.length
      ·obtain⟨hy1,hy2,hy5⟩:=Yg hjl;have hwj:=eX j O;obtain⟨b,off,rfl,hbw,z0,z1,z2,z3,z4⟩:=uP.out.at j hjl;have HTj:Hid (acc++(m.take (j+1)).map (·.off)=acc++(m.take j).map (·.off)++[m[j].off]):=Aa (by
        rw [List.take_succ_eq_append_getElem hjl,Dx,List.append_assoc];rfl)
       have hml:(acc++(m.take j).map (·.off)).length<=100000:=by
        have:=rV.out;simp only [AQ,BJ,Dw]at this⊢;omega
       generalize m[j]=lk at*;obtain⟨lo,ls,ln,lg,lt⟩:=lk;simp only at z0 z1 z2 z3 z4 HTj;generalize(acc++(m.take j).map (·.off))=Q at*;obtain⟨w7,hw7,hb7, -⟩:=EZ wr 111 [.int .i64 lo,.int .u64 (ls.toNat:Int),.int .u64 (ln.toNat:Int),.bool lg,.string lt];have dK:=Aa (τ Me.out hb7);have HO7:=Aa (LJ kP.out hb7);have HR7:=Aa (uP.out.below hb7);have hne:=(Apf.out _ rfl).2;have hbl:=(Apf.out _ rfl).1;simp only at hne hbl;have HA7:Hid (b<w7.heap.size):=Aa (Ω hb7.size);have HNe:=Aa hne;rw [hw7]at HO7 dK;have HW7:=Aa hw7;clear hw7 hb7 hne hbl kP Me uP Apf
       go_wp2_with(at_builtin;refine Ep rfl (.tmp 71) (.tmp 74) 38 rfl Tryz.WO (wr.alloc (.cells #[.int .i64 lo,.int .u64 (ls.toNat:Int),.int .u64 (ln.toNat:Int),.bool lg,.string lt] 111)) w2.heap.size u11 Q.length (TL Q) [.int .i64 lo] rfl (by exact HO7.out) rfl _ 1 rfl Θ rfl U (by intro u hu;simp at hu;subst hu;rfl) O U (by exact dK.out.size) ?_;intro g8 c8 w8 hO8 YH hK8 hg8)
       have HO8:=Aa hO8;have cO:=Aa (dK.out.trans YH);rw [<-HW7.out]at hK8 hg8;have HR8:=Aa (Rd.kept HR7.out hK8 (λa ea=>by injection ea with ea;rw [<-ea];exact HNe.out));have HA8:Hid (b<w8.heap.size/\some g8≠some b):=Aa (by
        refine⟨Ψ hK8.1 HA7.out,λe=> ?_⟩;injection e with e
        rcases hg8 with h| h
        ·exact HNe.out (by rw [h,e])
        ·have:=HA7.out;omega)
       clear hO8 YH hK8 hg8 HR7
       go_wp2_with fail
       go_roundw
       case rel=>exact⟨j+1,O,by go_num,by rw [HTj.out,AQ,Alm];exact HO8.out,cO.out,HR8.out,λa ea=>by injection ea with ea;subst ea;exact HA8.out⟩
       case measure=>simp [intOf];omega
      ·obtain⟨hy2,hy5⟩:=mQ hjl;have hjn:j=m.length:=O
       subst hjn;have HO7:Hid (wr.ownsRow w2.heap.size 3 1 u11 (acc++m.map (·.off)).length (TL (acc++m.map (·.off)))):=Aa (by have:=kP.out;rwa [Nc]at this);clear kP
       go_wp2_with fail
       go_roundw
       case rel=>exact⟨k+1,_,O,by go_num,cu.out,rV.out,HO7.out,Me.out⟩
       case measure=>simp [intOf];omega
  ·obtain⟨hx2,hx5⟩:=mQ hlt;have hkn:k=items.length:=O
   subst hkn;obtain⟨l,hla⟩:∃l,l=acc:=⟨_,rfl⟩;rw [<-hla]at HOr hal HAc;have HRl:Hid (NT s=if Gz (Df l)=true then some (Df l)else none):=Aa (by
    have h1:=HAc.out;rw [Nc]at h1;rw [HRp.out,h1])
   have HSo:=Aa (Aig l HOr.out Nr.out.size O);clear HAc hla HRp HL
   go_wp2_with fail
   refine HSo.out.mono ?_;rintro e w6⟨rfl,YN,hb6⟩;obtain⟨A6,c6,rfl,hc6,Yr⟩:=DL YN;have kP:=Aa YN;have Me:=Aa (τ HB2.out (Nr.out.trans hb6));have uP:=Aa Yr;have HSl:=Aa (KF l);have VD:=Aa (iR YN HB2.out.size);clear HSo YN hb6 Yr HOr Nr hc6
   go_wp2_with fail
   go_loopw [18](λi wr=>∃j:Nat,1<=j/\(j<=l.length\/j=1)/\i= .int .i64 (j:Nat)/\η w6 wr/\jE (Df l) j)(λi _=>l.length- (intOf i).toNat)
   case atStart=>exact⟨1,Ad _,.inr rfl,rfl,Below.refl _ _,λi h1 h2=>absurd h2 O⟩
   case round=>
    obtain⟨j,hj1,hj2,rfl,hbq,hto⟩:=hrel;have HBq:=Aa hbq;have HTo:=Aa hto;clear hbq hto;by_cases hjl:j<l.length
    ·obtain⟨hy1,hy2,hy5⟩:=Yg hjl;have hwj:=eX j O;have hwm:IntKind.i64.wrap ((j:Int) -1)=((j-1:Nat):Int):=by rw [IntWalk.i64_in _ O];omega
     obtain⟨b,off,rfl,hbw,hcc⟩:=(Rd.below uP.out HBq.out).2 O;have z1:=hcc j O;have z2:=hcc (j-1) O;obtain⟨za,hza⟩:∃za,(Df l)[j]? =some za:=⟨_,Af (by rw [HSl.out];exact hjl)⟩;obtain⟨zb,hzb⟩:∃zb,(Df l)[j-1]? =some zb:=⟨_,Af (by rw [HSl.out];omega)⟩;rw [TL,BZ,hza]at z1;rw [TL,BZ,hzb]at z2;simp only [DT]at z1 z2;have hm1:j-1<l.length:=O
     have hm2:decide (((j-1:Nat):Int)<(l.length:Int))=true:=decide_eq_true O;have hm3:decide ((j-1:Nat)<l.length)=true:=decide_eq_true hm1;have HZa:Hid ((Df l)[j-1+1]? =some za):=Aa (by rw [show j-1+1=j by omega];exact hza);have HZb:=Aa hzb;have HTs:Hid (za≠zb->jE (Df l) (j+1)):=Aa (oz hj1 HTo.out hza hzb);clear hcc hza hzb;generalize j-1=jm at*;cases q1:(za==zb)with
     | true=>
       have Tn:Hid (Gz (Df l)=false):=Aa (by
        cases ho:Gz (Df l)with
        | false=>rfl
        | true=>exact absurd (beq_iff_eq.1 q1).symm (Ael ho HZb.out HZa.out))
       clear HTs HZa HZb HTo
       go_wp2_with fail
       go_quiet(fail)
       go_wp2_with fail
       go_ret2;refine⟨τ Me.out (HBq.out.trans ((Dr.one _ _).below _)),?_⟩;rw [HRl.out,Tn.out,if_neg Bool.false_ne_true];rfl
     | false=>
       have HNe:Hid (za≠zb):=Aa (beq_eq_false_iff_ne.1 q1)
       go_wp2_with fail
       go_quiet(fail)
       go_wp2_with fail
       go_roundw
       case rel=>exact⟨j+1,O,.inl O,by go_num,HBq.out.trans ((Dr.one _ _).below _),HTs.out HNe.out⟩
       case measure=>simp [intOf];omega
    ·obtain⟨hy2,hy5⟩:=mQ hjl;have HOn:Hid (Gz (Df l)=true):=Aa (zK (λi h1 h2=>HTo.out i h1 (Ω HSl.out) h2))
     go_wp2_with fail
     go_ret2;refine⟨τ Me.out HBq.out,?_⟩;rw [HRl.out,HOn.out,if_pos rfl];have:wr.ownsRow w.heap.size 3 1 (.slice A6 l.length c6) (Df l).length (TL (Df l)):=by rw [HSl.out];exact LJ VD.out HBq.out
     exact⟨_,rfl,this⟩
def TC(h:Ix w x d p L s F){items:List (List UInt8×UInt64)}{met:List Int}(hs:DJ s=some (items,met)){l:List Int}(ho:Fv s items (Df met)=some l)(hl:l.length<=100000)(hd:Gz (Df l)=true):
 Calls prog 10 #[Az d,Az p,Az x] w λe w'=>∃v,e= .returned (.tuple #[v,.int .i64 0])/\w'.ownsRow w.heap.size 3 1 v l.length (TL (Df l))/\η w w':=by
 refine(bJ h hs (λk acc hk ha=> ?_)).mono ?_
 ·obtain⟨a,h1,h2⟩:=Zj ho k hk;rw [h1]at ha;injection ha with ha
  have:=fC h2;rw [ha]at this;omega
 ·rintro e w'⟨hb,hp⟩;have hr:NT s=some (Df l):=by unfold NT;rw [hs];simp only [ho,hd,if_true]
  rw [hr]at hp;obtain⟨v,e1,e2⟩:=hp;rw [KF]at e2;exact⟨v,e1,e2,hb⟩
end
def Aij(s:St)(slot:Nat)(items:List (List UInt8×UInt64)):Prop:=∀k(h:k<items.length),∃a t,Iq s items[k].2=some (a::t)/\a.rc.stamp.toNat<=slot
section
variable{w w':World}{x d p L:Nat}{s:St}{F:Nat->Prop}
def Aik(h:Ix w x d p L s F){items:List (List UInt8×UInt64)}{met:List Int}(hs:DJ s=some (items,met))(slot:UInt64)(hc:Aij s slot.toNat items):
 Calls prog 30 #[Az d,Az p,Az x,.int .u64 (slot.toNat:Int)] w λe w'=>e= .returned (.int .i64 0)/\η w w':=by
 have tY:=Aa (Tv h);have HX:=Aa h;have HS:=Aa hs;have HC:=Aa hc;clear h hs hc;go_enter func30,ntmps30
 go_wp2_with fail
 refine tY.out.mono ?_;rintro e w2⟨hb2,hp2⟩;rw [HS.out]at hp2;obtain⟨v2,rfl,ho2,hm2⟩:=hp2;obtain⟨A2,c2,rfl,hc2,hr2⟩:=DL ho2;have HB2:=Aa hb2;have HR2:=Aa hr2;clear tY ho2 hb2 hr2 hc2
 go_wp2_with fail
 go_loopw [26](λi wr=>∃k:Nat,k<=items.length/\i= .int .i64 (k:Nat)/\η w2 wr)(λi _=>items.length- (intOf i).toNat)
 case atStart=>exact⟨0,BU _,rfl,Below.refl _ _⟩
 case round=>
  obtain⟨k,hk,rfl,hb⟩:=hrel;have Nr:=Aa hb;clear hb;by_cases hlt:k<items.length
  ·obtain⟨b,off,rfl,hbw,q0,q1⟩:=zk (Rd.below HR2.out Nr.out) k hlt;obtain⟨hx1,hx2,hx5⟩:=Yg hlt;have hwk:=eX k O;obtain⟨a,t,hl,hst⟩:=HC.out k hlt;obtain⟨⟨ky,vl⟩,hit⟩:∃it,it=items[k]:=⟨_,rfl⟩;rw [<-hit]at q0 q1 hl;simp only at q0 q1 hl;have HM:=Aa hl;obtain⟨w4,hw4,hb4, -⟩:=EZ wr 104 [.string ⟨ky.toArray⟩,.int .u64 (vl.toNat:Int)];have HB4:=Aa (τ Nr.out hb4);have Aii:=τ HB2.out HB4.out;have UQ:=Aa (Tq (HX.out.below Aii).sys vl);have YE:=Aa hw4;clear hl hit hw4 hb4 Aii Nr
   go_wp2_with fail
   rw [<-YE.out];refine UQ.out.mono ?_;rintro e w5⟨hb5,hp5⟩;rw [HM.out]at hp5;obtain⟨XV,v5,rfl,UM⟩:=hp5;have hfew:=XV.few;obtain⟨A5,c5,rfl,hc5,mV⟩:=VA UM;have Jz:=Aa (τ HB4.out hb5);obtain⟨b5,Apg,rfl,dM,z0,z1,z2,z3,z4⟩:=mV.at 0 Θ;obtain⟨n,hn⟩:∃n,n=(a::t).length:=⟨_,rfl⟩;have hn0:0<n:=by rw [hn];simp
   rw [<-hn];rw [Nat.zero_mul,Nat.add_zero]at z0 z1 z2 z3 z4;simp only [List.getElem_cons_zero]at z1;have t0:decide ((0:Int)<(n:Int))=true:=decide_eq_true O;have t1:decide ((slot.toNat:Int)<(a.rc.stamp.toNat:Int))=false:=decide_eq_false O;have t2:decide (slot.toNat<a.rc.stamp.toNat)=false:=decide_eq_false O;generalize a.rc.stamp=st at*;clear UQ UM hb5 mV XV hc5 hn z0 z2 z3 z4 hst hfew HM
   go_wp2_with fail
   go_loopw [15](λi wq=>i= .int .i64 0/\wq=w5)(λ_ _=>0)
   case atStart=>exact⟨rfl,rfl⟩
   case round=>
    obtain⟨rfl,rfl⟩:=hrel
    go_wp2_with fail
    go_roundw
    case rel=>exact⟨k+1,O,by go_num,Jz.out⟩
    case measure=>simp [intOf];omega
  ·obtain⟨hx2,hx5⟩:=mQ hlt
   go_wp2_with fail
   go_ret;exact⟨rfl,τ HB2.out Nr.out⟩
def ja{ws:Nat->UInt64}{own Z:Nat->Prop}{G:St->Prop}{sh:Sh}(hL0:0<L)(hL:L<=1024)(hsh:shapeOf L=some sh)(h:Dev w d L ws M0 (λ_=>0) own)(hT:Tabs w)(g1:¬own 0)(g2:¬own 1)
 (h8:wordsAt ws 0 8=wordsOf sh)(hall:∀i,i<sh.BM->EX (ws (sh.table/8+i)).toNat=true)(hst:s={sh:=sh,ws:=ws,tk:=wordsAt ws (sh.table/8) sh.BM,hd:=List.replicate sh.BM 0}){r:List (List UInt8×UInt64)×List Int}(hs:DJ s=some r)(hsl:(ws 8).toNat<=60000)
 (hR:∀(W:World)(p x:Nat)(F:Nat->Prop),Ix W x d p L s F->Calls prog 10 #[Az d,Az p,Az x] W λe w'=>(∃A n c,e= .returned (.tuple #[.slice A n c,.int .i64 0]))/\η W w')
 (hB:∀(W:World)(p x:Nat)(F:Nat->Prop),Ix W x d p L s F->w.heap.size+1<=W.heap.size->(∀b,F b->own b\/w.heap.size+1<=b)->Calls prog 30 #[Az d,Az p,Az x,.int .u64 ((ws 8).toNat:Int)] W λe W1=>e= .returned (.int .i64 0)/\
  ∃s1 F1,Ix W1 x d p L s1 F1/\AP F F1 W W1/\Touch (λb=>Z b\/w.heap.size+1<=b) W W1/\Calls prog 31 #[Az d,Az p,Az x] W1 λe W2=>e= .returned (.int .i64 0)/\
   ∃s2 F2,Ix W2 x d p L s2 F2/\AP F1 F2 W1 W2/\Touch (λb=>Z b\/w.heap.size+1<=b) W1 W2/\G s2):
 Calls prog 8 #[Az d] w λe w'=>∃p x F s',e= .returned (.tuple #[.agg #[Az p,Az x,.int .u64 ((ws 8).toNat:Int)],.int .i64 0])/\
  Ix w' x d p L s' F/\G s'/\Touch Z w w'/\(∀b,F b->own b\/w.heap.size<=b)/\w.heap.size<=x:=by
 have kX:=Aa hT.lt;obtain⟨w1,hw1,hb1,hB1⟩:=EZ w 30 [.pointer none,.pointer none,.int .u64 0];have wY:=Aa hB1;have HO:=Aa (gJ hL0 hL hsh U (h.below hb1) (hT.below hb1) g1 g2 h8 hall);rw [<-hst]at HO;have HB1:=Aa hb1;have HW1:=Aa hw1;have hs1:w1.heap.size=w.heap.size+1:=by rw [hw1];simp
 have Z8:Hid (∀b,own b->b<w.heap.size):=Aa (λb hb=>h.lt b hb);have h88:s.ws 8=ws 8:=by rw [hst]
 have H88:=Aa h88;have HS:=Aa hs;have HRc:=Aa hR;have TV:=Aa hB;have t6:decide ((60000:Int)<((ws 8).toNat:Int))=false:=decide_eq_false O;have t7:decide (60000<(ws 8).toNat)=false:=decide_eq_false O;have xA:Hid (8<8*L):=Aa (Ξ ((FK hsh).fits) ((FK hsh).Le) ((FK hsh).BM));clear h hT g1 g2 h8 hall hst hs hsl hR hB hw1 hb1 hB1 h88 hsh;go_enter func8,ntmps8
 go_wp2_with fail
 rw [<-HW1.out];refine HO.out.mono ?_;rintro e w2⟨p,F,rfl,hsy2,hb2,hF2⟩;have HB2:=Aa hb2;have HOx:=Aa (UG hsy2);have HF2:Hid (∀b,F b->own b\/w.heap.size+1<=b):=Aa (λb hb=>(hF2 b hb).imp id (λh=>O));clear HO hsy2 hb2 hF2
 go_wp2_with fail
 refine HOx.out.mono ?_;rintro e w3⟨hb3,hp3⟩;rw [HS.out]at hp3;obtain⟨x,rfl,hx3,hxs⟩:=hp3;have HB3:=Aa (τ HB2.out hb3);have HX3:=Aa hx3;have HXs:=Aa hxs;have HR3:=Aa (HRc.out _ _ _ _ hx3);clear HOx hb3 hx3 hxs HRc
 go_wp2_with fail
 refine HR3.out.mono ?_;rintro e w4⟨⟨A4,n4,c4,rfl⟩,hb4⟩;have HB4:=Aa (τ HB3.out hb4);have hx4:=HX3.out.below hb4;have HLd:=Aa (hx4.sys.load 8 xA.out);rw [H88.out,show((8*8:Nat):Int)=64 from rfl]at HLd;have ZN:=Aa (TV.out _ _ _ _ hx4 (Ω HB4.out.size) HF2.out);clear HR3 hb4 hx4 TV
 go_wp2_with fail
 refine HLd.out.mono ?_;rintro e w5⟨rfl,rfl⟩;clear HLd
 go_wp2_with fail
 refine ZN.out.mono ?_;rintro e w6⟨rfl,s6,F6, -,VX,ht6,hfr⟩;have U2:=Aa VX;have HT6:=Aa ht6;have Atu:=Aa hfr;clear ZN VX ht6 hfr
 go_wp2_with fail
 refine Atu.out.mono ?_;rintro e w7⟨rfl,s7,F7,hx7,yc,ht7,hg7⟩;have HX7:=Aa hx7;have HG7:=Aa hg7;have YF:=Aa (U2.out.trans yc);have HNF:Hid (¬F w.heap.size):=Aa (λhb=>(HF2.out _ hb).elim (λh=>Ω (Z8.out _ h)) (λh=>O));have HT7:Hid (Touch Z w w7):=Aa (((Touch.of_below (τ HB1.out HB4.out)).trans HT6.out (λb hb=>hb.imp id (λh=>O))).trans ht7 (λb hb=>hb.imp id (λh=>O)));have k7:CS w7 w.heap.size 30 [.pointer none,.pointer none,.int .u64 0]:=by
  have h1:=wY.out.ξ HB4.out;exact(YF.out.touch.block _ h1.lt HNF.out).trans h1
 have f0:=k7.frozen 0;have f1:=k7.frozen 1;have f2:=k7.frozen 2;obtain⟨e0,e1,e2⟩:=k7.p3;have HK7:=Aa k7;clear Atu hx7 yc ht7 hg7 k7 U2 HT6
 go_wp2_with fail
 obtain⟨W,hW⟩:∃W,W=((w7.setCell (Φ w.heap.size) (Az p)).setCell (Δ w.heap.size 1) (Az x)).setCell (Δ w.heap.size 2) (.int .u64 ((ws 8).toNat:Int)):=⟨_,rfl⟩;rw [<-hW];have tg:Touch (λk=>k=w.heap.size) w7 W:=by rw [hW];exact(((Touch.refl (λk=>k=w.heap.size) w7).setCell (p:=Φ w.heap.size) (.inl rfl) _).setCell (p:=Δ w.heap.size 1) (.inl rfl) _).setCell (p:=Δ w.heap.size 2) (.inl rfl) _
 have bg:CS W w.heap.size 30 [Az p,Az x,.int .u64 ((ws 8).toNat:Int)]:=by rw [hW];exact((HK7.out.AZ 0 _).AZ 1 _).AZ 2 _
 obtain⟨y0,y1,y2⟩:=bg.p3;refine bodyPost_ret (v:= .tuple #[.agg #[Az p,Az x,.int .u64 ((ws 8).toNat:Int)],.int .i64 0]) (by simp [results,results8,go_sem,y0,y1,y2]) rfl ?_;have hF7:∀b,F7 b->own b\/w.heap.size+1<=b:=λb hb=>(YF.out.own b hb).elim (HF2.out b) (λh=> .inr (Ω HB4.out.size))
 have hFn:∀b,F7 b->¬b=w.heap.size:=λb hb e=>(hF7 b hb).elim (λh=>Ω (Z8.out b h)) (λh=>O)
 have hxs:w.heap.size<x:=by
  have:=HXs.out;have:=HB2.out.size;omega
 exact⟨p,x,F7,s7,rfl,⟨HX7.out.sys.keep tg hFn (λe=>Ω kX.out) (λe=>Ω kX.out),HX7.out.box.touch tg O,HX7.out.out⟩,HG7.out,HT7.out.trans tg (λb hb=> .inr (Nat.le_of_eq hb.symm)),λb hb=>(hF7 b hb).imp id (λh=>O),O⟩
end
def YP(l:List Int)(x:Int):Nat:=l.countP λy=>decide (y<x)
def tZ(l:List Int)(x:Int)(i:Nat)(hi:i<=l.length)(h1:∀t(h:t<l.length),t<i->l[t]<x)(h2:∀t(h:t<l.length),i<=t->x<=l[t]):YP l x=i:=by
 unfold YP
 conv=>lhs;rw [<-List.take_append_drop i l]
 rw [List.countP_append];have e1:(l.take i).countP (λy=>decide (y<x))=i:=by
  have:(l.take i).length=i:=by simp;omega
  conv=>rhs;rw [<-this]
  rw [List.countP_eq_length];intro a ha;obtain⟨t,ht,rfl⟩:=CB ha;simp at ht;simpa using h1 t O O
 have e2:(l.drop i).countP (λy=>decide (y<x))=0:=by
  rw [List.countP_eq_zero];intro a ha;obtain⟨t,ht,rfl⟩:=CB ha;simp at ht;have:=h2 (i+t) O O;simp;omega
 omega
def uf(l:List Int)(x:Int)(i:Nat)(h1:∀t(h:t<l.length),t<i->l[t]<x)(h2:∀t(h:t<l.length),i<=t->x<=l[t])
 (hs:∀a b(ha:a<l.length)(hb:b<l.length),a<b->l[a]<l[b])(hi:i<l.length)(hx:l[i]≠x):(l.any λy=>y==x)=false:=by
 rw [PT];intro a ha;obtain⟨t,ht,rfl⟩:=CB ha;simp;rcases Il t i with h| h
 ·have:=h1 t ht h;omega
 ·rcases Il i t with h'| h'
  ·have:=hs i t hi ht h';have:=h2 i hi (Ad _);omega
  ·obtain rfl:t=i:=O
   exact hx
def mg(l:List Int)(x:Int)(h1:∀t(h:t<l.length),t<l.length->l[t]<x):(l.any λy=>y==x)=false:=by
 rw [PT];intro a ha;obtain⟨t,ht,rfl⟩:=CB ha;have:=h1 t ht ht;simp;omega
def ug(l:List Int)(x:Int)(i:Nat)(hi:i<l.length)(hx:l[i]=x):(l.any λy=>y==x)=true:=by
 rw [YR];exact⟨l[i],BI _,by simpa using hx⟩
def Ail{w:World}{A:Option Addr}{l:List Int}(h:Rd w A l.length (TL l)){t:Nat}(ht:t<l.length):∃(_:t<l.length)(p off:Nat),A=some (Δ p off)/\p<w.heap.size/\w.cell? (Δ p (off+t))=some (.int .i64 l[t]):=by
 obtain⟨b,off,e,hb,hc⟩:=h.2 O;refine⟨ht,b,off,e,hb,?_⟩;rw [hc t ht,TL,BZ,Af ht];rfl
def uh(x:Int)(w:World):Calls prog 162 #[.int .i64 x] w λe w'=>e= .returned (.bool false)/\w=w':=by
 go_enter func162,ntmps162;go_wp2;go_ret;exact⟨by simp,rfl⟩
def XW(x:Int)(w:World):Calls prog 118 #[.int .i64 x] w λe w'=>e= .returned (.bool false)/\w=w':=by
 go_enter func118,ntmps118;go_wp2;go_ret;exact⟨by simp,rfl⟩
def VP(x y:Int)(w:World):Calls prog 117 #[.int .i64 x,.int .i64 y] w λe w'=>e= .returned (.bool (decide (x<y)))/\w=w':=by
 go_enter func117,ntmps117
 go_wp2_with(go_at_call 162;refine(uh _ _).mono ?_;rintro e w'⟨rfl,rfl⟩)
 go_ret;exact⟨rfl,rfl⟩
def ui(A:Option Addr)(n c:Nat)(l:List Int)(x:Int)(w:World)(hbig:n<=1000000)(hln:l.length=n)(h:Rd w A n (TL l))(hs:∀a b(ha:a<l.length)(hb:b<l.length),a<b->l[a]<l[b]):
 Calls prog 72 #[.slice A n c,.int .i64 x] w λe w'=>e= .returned (.tuple #[.int .i64 (YP l x:Nat),.bool (l.any λy=>y==x)])/\w=w':=by
 subst hln;have S:=Aa hs;clear hs;go_enter func72,ntmps72;go_wp2
 go_loopg [7,8]l.length(λg s7 s8 wr=>∃lo hi:Nat,s7= .int .i64 lo/\s8= .int .i64 hi/\lo<=hi/\hi<=l.length/\hi-lo<=g/\wr=w/\(∀t(h:t<l.length),t<lo->l[t]<x)/\(∀t(h:t<l.length),hi<=t->x<=l[t]))
 case atStart=>exact⟨0,l.length,rfl,rfl,BU _,Ad _,O,rfl,λt _ ht=>absurd ht (Nat.not_lt_zero _),λt h1 h2=>O⟩
 case round=>
  obtain⟨lo,hi,rfl,rfl,hlh,hin,hg,rfl,h1,h2⟩:=hrel;have I1:=Aa h1;have I2:=Aa h2;clear h1 h2;by_cases hlt:lo<hi
  ·obtain⟨hq,p,off,rfl,hp,hc⟩:=Ail h (show(lo+hi)/2<l.length by omega);generalize hy:l[(lo+hi)/2]=y at hc;have Y:=Aa hy;clear hy;by_cases hyx:y<x
   ·have hd:decide (y<x)=true:=decide_eq_true hyx
    go_wp2_with(go_at_call 117;refine(VP _ _ _).mono ?_;rintro e w'⟨rfl,rfl⟩)
    go_roundg(hi- ((lo+hi)/2+1))
    case measure=>omega
    case rel=>
     refine⟨(lo+hi)/2+1,hi,by rw [show((lo:Int)+(hi:Int))/2+1=(((lo+hi)/2+1:Nat):Int)by omega],rfl,O,hin,Ad _,rfl,λt ht htl=> ?_,I2.out⟩;rcases Il t ((lo+hi)/2)with h'| h'
     ·have:=S.out t ((lo+hi)/2) ht hq h';rw [Y.out]at this;omega
     ·obtain rfl:t=(lo+hi)/2:=O
      rw [Y.out];exact hyx
   ·have hd:decide (y<x)=false:=decide_eq_false hyx
    go_wp2_with(go_at_call 117;refine(VP _ _ _).mono ?_;rintro e w'⟨rfl,rfl⟩)
    go_roundg((lo+hi)/2-lo)
    case measure=>omega
    case rel=>
     refine⟨lo,(lo+hi)/2,rfl,by rw [show((lo:Int)+(hi:Int))/2=(((lo+hi)/2:Nat):Int)by omega],O,O,Ad _,rfl,I1.out,λt ht htn=> ?_⟩;rcases Il ((lo+hi)/2) t with h'| h'
     ·have:=S.out ((lo+hi)/2) t hq ht h';rw [Y.out]at this;omega
     ·obtain rfl:t=(lo+hi)/2:=O
      rw [Y.out];omega
  ·have:hi=lo:=O
   subst this;have E:=Aa (tZ l x hi hin I1.out I2.out);by_cases hn:hi<l.length
   ·obtain⟨hq,p,off,rfl,hp,hc⟩:=Ail h hn;generalize hy:l[hi]=y at hc;have Y:=Aa hy;clear hy;by_cases hyx:y=x
    ·have E2:=Aa (ug l x hi hn (by rw [Y.out];exact hyx));have hd:(y==x)=true:=by rw [beq_iff_eq];exact hyx
     clear hyx
     go_wp2_with(go_at_call 118;refine(XW _ _).mono ?_;rintro e w'⟨rfl,rfl⟩)
     go_ret2;exact⟨by rw [E.out,E2.out];rfl,rfl⟩
    ·have E2:=Aa (uf l x hi I1.out I2.out S.out hn (by rw [Y.out];exact hyx));have hd:(y==x)=false:=by rw [beq_eq_false_iff_ne];exact hyx
     clear hyx
     go_wp2_with(go_at_call 118;refine(XW _ _).mono ?_;rintro e w'⟨rfl,rfl⟩)
     go_ret2;exact⟨by rw [E.out,E2.out];rfl,rfl⟩
   ·have hle:hi=l.length:=O
    have E2:=Aa (mg l x (λt ht _=>I1.out t ht O));clear hle
    go_wp2_with fail
    go_ret2;exact⟨by rw [E.out,E2.out];rfl,rfl⟩
section
variable{w w':World}{x d p L:Nat}{s:St}{F:Nat->Prop}
end
def Aph{l:List Int}(h:l.Pairwise (λx y=>x<y)):∀a b(ha:a<l.length)(hb:b<l.length),a<b->l[a]<l[b]:=λa b ha hb hab=>Ku.1 h a b ha hb hab
def UI(Y:Nat->Prop)(L:Nat)(s:St)(items:List Kv)(ch:List UInt8->List Lk)(k:Nat)(sk:St):Prop:=
 E8 (λo=>Y o/\o∉(DC s).take k) L sk items ch/\sk.sh=s.sh/\(∀j,j<16->sk.ws j=s.ws j)/\∀p d,AO sk p d<->AO s p d/\¬(Y p/\p∈(DC s).take k)
def Aem{Y:Nat->Prop}{L:Nat}{s sk:St}{items:List Kv}{ch:List UInt8->List Lk}(ok:Bz L s){r:List Int}(hr:∀o:Nat,(o:Int)∈r<->(∃d,AO s o d)/\¬Y o){k:Nat}(hk:k<(DC s).length)(hf:UI Y L s items ch k sk):
 ((r.any λz=>z==(((DC s)[k]:Nat):Int))=true/\UI Y L s items ch (k+1) sk)\/
 ((r.any λz=>z==(((DC s)[k]:Nat):Int))=false/\∃s2,IE sk ((DC s)[k]:Nat)=(s2,0)/\UI Y L s items ch (k+1) s2):=by
 obtain⟨h,Aim,hlo0,Atv⟩:=hf;have ht:∃d,AO s (DC s)[k] d:=(IK ok _).1 (BI _);have htk:(DC s).take (k+1)=(DC s).take k++[(DC s)[k]]:=by rw [List.take_add_one,Af hk];rfl
 have hnk:(DC s)[k]∉(DC s).take k:=λhm=>by
  obtain⟨j,hj,e⟩:=CB hm;rw [Dw]at hj;rw [List.getElem_take]at e;have:=Ku.1 (QD ok) j k O hk O;omega
 by_cases hm:(((DC s)[k]:Nat):Int)∈r
 ·have hny:=((hr _).1 hm).2;refine .inl ⟨YR.2 ⟨_,hm,by simp⟩,h.congr (λo=> ?_),Aim,hlo0,λp d=> ?_⟩
  ·rw [htk,AL,BD];exact⟨λ⟨h1,h2⟩=>⟨h1,λh3=>h3.elim h2 (λe=>hny (e▸h1))⟩,λ⟨h1,h2⟩=>⟨h1,λh3=>h2 (.inl h3)⟩⟩
  ·rw [Atv p d,htk,AL,BD];exact and_congr_right λ_=>not_congr ⟨λ⟨h1,h2⟩=>⟨h1,.inl h2⟩,λ⟨h1,h2⟩=>⟨h1,h2.resolve_right (λe=>hny (e▸h1))⟩⟩
 ·have hY:Y (DC s)[k]:=Classical.byContradiction λhn=>hm ((hr _).2 ⟨ht,hn⟩)
  obtain⟨s2,e2,hs2,hsh,hlo⟩:=h.drop (o:=(DC s)[k]) ⟨hY,hnk⟩;have htd:=h.Ala (o:=(DC s)[k]) ⟨hY,hnk⟩ e2;refine .inr ⟨?_,s2,e2,hs2.congr (λo=> ?_),hsh.trans Aim,λj hj=>(hlo j hj).trans (hlo0 j hj),λp d=> ?_⟩
  ·rw [PT];intro z hz e;rw [beq_iff_eq]at e;exact hm (e▸hz)
  ·rw [htk,AL,BD];exact⟨λ⟨⟨h1,h2⟩,h3⟩=>⟨h1,λh4=>h4.elim h2 h3⟩,λ⟨h1,h2⟩=>⟨⟨h1,λh3=>h2 (.inl h3)⟩,λe=>h2 (.inr e)⟩⟩
  ·rw [htd p d,Atv p d,htk,AL,BD];exact⟨λ⟨⟨h1,h2⟩,h3⟩=>⟨h1,λ⟨h4,h5⟩=>h5.elim (λh6=>h2 ⟨h4,h6⟩) h3⟩,λ⟨h1,h2⟩=>⟨⟨h1,λ⟨h3,h4⟩=>h2 ⟨h3,.inl h4⟩⟩,λe=>h2 ⟨e▸hY,.inr e⟩⟩⟩
def Aio{Y:Nat->Prop}{L:Nat}{s sk:St}{items:List Kv}{ch:List UInt8->List Lk}(ok:Bz L s){r:List Int}(hr:∀o:Nat,(o:Int)∈r<->(∃d,AO s o d)/\¬Y o){n k:Nat}(hn:n=(DC s).length)(hk:k<n)(h:UI Y L s items ch k sk){w:World}{A:Option Addr}(hA:Rd w A (DC s).length (VB (DC s))):
 ∃b off y:Nat,A=some (Δ b off)/\b<w.heap.size/\w.cell? (Δ b (off+k))=some (.int .i64 (y:Int))/\y<=65536/\(((r.any λz=>z==(y:Int))=true/\UI Y L s items ch (k+1) sk)\/
 ((r.any λz=>z==(y:Int))=false/\∃s2,IE sk y=(s2,0)/\UI Y L s items ch (k+1) s2)):=by
 have hkl:k<(DC s).length:=O
 obtain⟨b,off,u,rfl,hbw,hu,q0⟩:=hA.at (k:=k) hkl;rw [VB,BZ,Af hkl,DT,Option.some.injEq]at hu;subst hu;refine⟨b,off,(DC s)[k],rfl,hbw,q0,?_,Aem ok hr hkl h⟩;obtain⟨d,hd⟩:=(IK ok _).1 (BI hkl);have:=(hd.bounds ok).2.1;have:=ok.L1;omega
section
variable{w w':World}{x d p L:Nat}{s:St}{F:Nat->Prop}{items:List Kv}{ch:List UInt8->List Lk}{Y:Nat->Prop}
def uj(h:Ix w x d p L s F)(hs:E8 Y L s items ch):
 Calls prog 31 #[Az d,Az p,Az x] w λe w'=>e= .returned (.int .i64 0)/\∃s' F',Ix w' x d p L s' F'/\Ce L s' items ch/\s'.sh=s.sh/\(∀j,j<16->s'.ws j=s.ws j)/\AP F F' w w'/\∀o d,AO s' o d<->AO s o d/\¬Y o:=by
 obtain⟨its,met,r,q1, -,q3,q4,q5,q6,q7, -⟩:=Aa3 hs;have HR:=Aa (TC h q1 q3 q4 q5);have hal:=Aa1 hs.ix.ok;obtain⟨n,hn⟩:∃n,n=(DC s).length:=⟨_,rfl⟩;have hnl:n<=100000:=O
 have HX:=Aa h;have HS:=Aa hs;have HUp:=Aa q6;have HMe:=Aa q7;have HN:=Aa hn;have MC:Hid (∀b,F b->b<w.heap.size):=Aa h.sys.lt;have hq4:=q4;clear h hs q1 q3 q4 q5 q6 q7 hn hal;go_enter func31,ntmps31
 go_wp2_with fail
 refine HR.out.mono ?_;rintro e w2⟨v2,rfl,ho2,hb2⟩;obtain⟨A2,c2,rfl,hc2,_⟩:=DL ho2;have HB2:=Aa hb2;have HR2:Hid (Ja w2 F A2 r.length (TL (Df r))):=Aa (Ja.JU ho2 (λb h1 _ h3=>absurd (MC.out b h3) O));have HA:=Aa (show Calls prog 17 #[Az p] w2 λe w'=>∃v,e= .returned v/\w'.ownsRow w2.heap.size 3 1 v (DC s).length (VB (DC s))/\η w2 w' from by
  obtain⟨tb,hb,n,cT,cH,own,hr, -⟩:=(HX.out.below hb2).sys;exact RV hr.at)
 clear HR ho2 hb2 hc2
 go_wp2_with fail
 refine HA.out.mono ?_;rintro e w3⟨v3,rfl,ho3,hb3⟩;obtain⟨A3,c3,rfl,hc3,_⟩:=DL ho3;have HB3:=Aa (τ HB2.out hb3);have Atw:=Aa (HR2.out.below hb3);have HR3:Hid (Ja w3 F A3 (DC s).length (VB (DC s))):=Aa (Ja.JU ho3 (λb h1 _ h3=>absurd (MC.out b h3) (Ω HB2.out.size)));have HX3:=Aa (HX.out.below HB3.out);clear HA ho3 hb3 hc3 HR2;rw [<-HN.out]
 go_wp2_with fail
 go_loopw [26](λi wq=>∃(k:Nat)(sk:St)(Fk:Nat->Prop),k<=n/\i= .int .i64 (k:Nat)/\Ix wq x d p L sk Fk/\UI Y L s items ch k sk/\AP F Fk w wq/\Ja wq Fk A2 r.length (TL (Df r))/\Ja wq Fk A3 (DC s).length (VB (DC s)))(λi _=>n- (intOf i).toNat)
 case atStart=>exact⟨0,s,F,BU _,rfl,HX3.out,⟨HS.out.congr (λo=>⟨λh=>⟨h,λh=>(nomatch h)⟩,λh=>h.1⟩),rfl,λ_ _=>rfl,λ_ _=>⟨λh=>⟨h,λh=>(nomatch h.2)⟩,λh=>h.1⟩⟩,AP.of_below HB3.out,Atw.out,HR3.out⟩
 case round=>
  obtain⟨k,sk,Fk,hk,rfl,hxk,hsk,hmk,hr2,hr3⟩:=hrel;have HXk:=Aa hxk;have HMk:=Aa hmk;have Api:=Aa hr2;have Apj:=Aa hr3;have HSk:=Aa hsk;clear hxk hmk hr2 hr3 hsk HX3 Atw HR3;by_cases hlt:k<n
  ·obtain⟨b,off,y,rfl,hbw,q0,hy6,hst⟩:=Aio HS.out.ix.ok HMe.out HN.out hlt HSk.out Apj.out.1;have MX:=Aa hst;have HSr:=Aa (ui A2 r.length c2 (Df r) y wr O (KF r) Api.out.1 (Aph HUp.out));have mY:=Aa (Wy HXk.out.sys y O);clear hst hy6;generalize YP (Df r) ((y:Nat):Int)=z at HSr;obtain⟨hx1,hx2,hx5⟩:=Yg hlt;have hwk:=eX k O;rcases MX.out with⟨ha,hs'⟩| ⟨ha,s2,e2,hs'⟩
   ·rw [ha]at HSr;have HS':=Aa hs';clear ha hs' mY MX
    go_wp2_with fail
    refine HSr.out.mono ?_;rintro e w5⟨rfl,rfl⟩
    go_wp2_with fail
    go_roundw
    case rel=>exact⟨k+1,sk,Fk,O,by go_num,HXk.out,HS'.out,HMk.out,Api.out,Apj.out⟩
    case measure=>simp [intOf];omega
   ·rw [ha]at HSr;rw [e2]at mY;have HS':=Aa hs';clear ha hs' e2 MX
    go_wp2_with fail
    refine HSr.out.mono ?_;rintro e w5⟨rfl,rfl⟩
    go_wp2_with fail
    refine mY.out.mono ?_;rintro e w6⟨rfl,F6,hS6,nJ⟩;have nM:=Aa (HXk.out.move hS6 nJ);have U2:=Aa nJ;clear hS6 nJ mY HSr
    go_wp2_with fail
    go_roundw
    case rel=>exact⟨k+1,s2,F6,O,by go_num,nM.out,HS'.out,HMk.out.trans U2.out,Api.out.moved U2.out,Apj.out.moved U2.out⟩
    case measure=>simp [intOf];omega
  ·obtain⟨hx2,hx5⟩:=mQ hlt;have hkn:k=(DC s).length:=Ω HN.out
   go_wp2_with fail
   go_ret;obtain⟨hsk,hsh,hlo,htk⟩:=HSk.out;have hall:∀o,Y o->o∈(DC s).take k:=λo ho=>by
    rw [hkn,Nc];exact(IK HS.out.ix.ok o).2 (HS.out.taken ho)
   exact⟨rfl,sk,Fk,HXk.out,hsk.ok (λo hY=>hY.2 (hall o hY.1)),hsh,hlo,HMk.out,λo d=>(htk o d).trans (and_congr_right λ_=>not_congr ⟨λh=>h.1,λh=>⟨h,hall o h⟩⟩)⟩
end
section
variable{Y:Nat->Prop}{L:Nat}{s0 s:St}{items:List Kv}{ch:List UInt8->List Lk}
def Alp(h:E8 Y L s items ch){slot:Nat}(hst:∀k,∀y∈ch k,y.rc.stamp.toNat<=slot):Aij s slot (items.map λkv=>(pairs kv.1,kv.2)):=by
 intro k hk;rw [BJ]at hk;obtain⟨hc,hn⟩:=h.chain _ (BI hk);have hl:=hc.listed h.ix.ok;simp only [List.getElem_map];cases hch:ch (items[k]).1 with
 | nil=>exact absurd hch (VH hc hn)
 | cons a t=>rw [hch]at hl;exact⟨a,t,hl,hst _ a (by rw [hch];exact List.mem_cons_self ..)⟩
def Abb:Prop:=∀(w:World)(d L:Nat)(own Y:Nat->Prop)(s0 s:St)(items:List Kv)(ch:List UInt8->List Lk),0<L->L<=1024->Dev w d L s.ws M0 (λ_=>0) own->Tabs w->¬own 0->¬own 1->shapeOf L=some s.sh->wordsAt s.ws 0 8=wordsOf s.sh->
    Loose L s0 s Y items ch->Bz L s0->(∀k,∀y∈ch k,y.rc.stamp.toNat<=(s.ws 8).toNat)->(s.ws 8).toNat<=60000->
    Calls prog 8 #[Az d] w λe w'=>∃p x F s',e= .returned (.tuple #[.agg #[Az p,Az x,.int .u64 ((s.ws 8).toNat:Int)],.int .i64 0])/\
     Ix w' x d p L s' F/\(Ce L s' items ch/\s'.ws 8=s.ws 8/\DC s'=DC s0)/\Touch own w w'/\(∀b,F b->own b\/w.heap.size<=b)/\w.heap.size<=x
def jc{w:World}{d:Nat}{own:Nat->Prop}(hL0:0<L)(hL:L<=1024)(hD:Dev w d L s.ws M0 (λ_=>0) own)(hT:Tabs w)(g1:¬own 0)(g2:¬own 1)(hsh:shapeOf L=some s.sh)(h8:wordsAt s.ws 0 8=wordsOf s.sh)
 (hlo:Loose L s0 s Y items ch)(h0:Bz L s0)(_:∀k,∀y∈ch k,y.rc.stamp.toNat<=(s.ws 8).toNat)(h60:(s.ws 8).toNat<=60000)
 (hB:∀(W:World)(p x:Nat)(F:Nat->Prop),Ix W x d p L (En s.ws s.sh) F->E8 Y L (En s.ws s.sh) items ch->(∃met,DJ (En s.ws s.sh)=some (items.map (λkv=>(pairs kv.1,kv.2)),met))->
  Calls prog 30 #[Az d,Az p,Az x,.int .u64 ((s.ws 8).toNat:Int)] W λe W1=>e= .returned (.int .i64 0)/\∃F1,Ix W1 x d p L (En s.ws s.sh) F1/\AP F F1 W W1):
 Calls prog 8 #[Az d] w λe w'=>∃p x F s',e= .returned (.tuple #[.agg #[Az p,Az x,.int .u64 ((s.ws 8).toNat:Int)],.int .i64 0])/\
  Ix w' x d p L s' F/\(Ce L s' items ch/\s'.ws 8=s.ws 8/\DC s'=DC s0)/\Touch own w w'/\(∀b,F b->own b\/w.heap.size<=b)/\w.heap.size<=x:=by
 obtain⟨hy,ht⟩:=hlo.opened;obtain⟨its,met,r,q1,q2,q3,q4,q5,_⟩:=Aa3 hy;subst q2;refine ja (s:=En s.ws s.sh) (G:=λs'=>Ce L s' items ch/\s'.ws 8=s.ws 8/\DC s'=DC s0) hL0 hL hsh hD hT g1 g2 h8 (λi hi=> ?_) rfl q1 h60 (λW p x F hx=>(TC hx q1 q3 q4 q5).mono ?_) (λW p x F hx hsz hF=>(hB W p x F hx hy ⟨_,q1⟩).mono ?_)
 ·rw [hlo.sto.ix.ok.sh.table,show 128/8+i=16+i by omega,hlo.sto.ix.ok.tab i hi];exact(hlo.sto.ix.ok.tk i hi).right
 ·rintro e w'⟨v,rfl,ho,hb⟩;obtain⟨A,c,rfl,_,_⟩:=DL ho;exact⟨⟨A,_,c,rfl⟩,hb⟩
 ·rintro e W1⟨rfl,F1,hx1,hm1⟩;have hF1:∀b,F1 b->own b\/w.heap.size+1<=b:=λb hb=>(hm1.own b hb).elim (hF b) (λh=> .inr (Nat.le_trans hsz h))
  refine⟨rfl,_,F1,hx1,hm1,hm1.touch.mono hF,(uj hx1 hy).mono ?_⟩;rintro e W2⟨rfl,s2,F2,hx2,hs2,_,hlo2,hm2,ht2⟩;exact⟨rfl,s2,F2,hx2,hm2,hm2.touch.mono hF1,hs2,hlo2 8 U,hlo.freed h0 hs2.ix.ok ht2⟩
def XX:Abb:=by
 intro w d L own Y s0 s items ch hL0 hL hD hT g1 g2 hsh h8 hlo h0 hst h60;exact jc hL0 hL hD hT g1 g2 hsh h8 hlo h0 hst h60 λW p x F hx hy⟨met,q1⟩=>(Aik hx q1 (s.ws 8) (Alp hy hst)).mono λe W1⟨he,hb⟩=>⟨he,F,hx.below hb,AP.of_below hb⟩
def Aen(hO:Abb){w:World}{x d p:Nat}{F:Nat->Prop}(hx:Ix w x d p L s F)(h8:wordsAt s.ws 0 8=wordsOf s.sh)(hlo:Loose L s0 s Y items ch)(h0:Bz L s0)(hst:∀k,∀y∈ch k,y.rc.stamp.toNat<=(s.ws 8).toNat)(h60:(s.ws 8).toNat<=60000):
 Calls prog 8 #[Az d] w λe w'=>∃p x F' s',e= .returned (.tuple #[.agg #[Az p,Az x,.int .u64 ((s.ws 8).toNat:Int)],.int .i64 0])/\
  Ix w' x d p L s' F'/\(Ce L s' items ch/\s'.ws 8=s.ws 8/\DC s'=DC s0)/\AP F F' w w':=by
 obtain⟨tb,hb,n,cT,cH,own,hr,hF⟩:=hx.sys;refine(hO _ _ _ _ _ _ _ _ _ hr.L0 hr.L1 hr.dev.1 hr.tabs (λh=>hr.g1 (.inl h)) (λh=>hr.g2 (.inl h)) hr.shape h8 hlo h0 hst h60).mono ?_;rintro e w'⟨p,x,F',s',rfl,hx',hs,ht,hF',_⟩;exact⟨p,x,F',s',rfl,hx',hs,ht.mono (λb hb=>(hF b).2 (.inl hb)),λb hb=>(hF' b hb).imp (λh=>(hF b).2 (.inl h)) id⟩
end
