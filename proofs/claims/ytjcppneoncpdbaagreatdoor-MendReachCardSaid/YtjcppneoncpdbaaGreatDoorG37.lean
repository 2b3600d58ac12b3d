import Derived.Sort.OwnSortedInts
import Derived.Deep.LoopGhost
import Derived.Test.YtjcppneoncpdbaaGreatDoorG01
import Derived.Test.YtjcppneoncpdbaaGreatDoorG04
import Derived.Test.YtjcppneoncpdbaaGreatDoorG12
import Derived.Test.YtjcppneoncpdbaaGreatDoorG13
import Derived.Test.YtjcppneoncpdbaaGreatDoorG15
import Derived.Test.YtjcppneoncpdbaaGreatDoorG21
import Derived.Test.YtjcppneoncpdbaaGreatDoorG29
import Derived.Test.YtjcppneoncpdbaaGreatDoorG33
import Derived.Test.YtjcppneoncpdbaaGreatDoorG34
set_option maxHeartbeats 32000000
set_option maxRecDepth 100000
open List renaming map_append->Gn,length_mergeSort->mM,mem_map->BX,getElem?_eq_some_iff->CB,length_append->AQ,length_map->CZ,take_length->Qb,getElem?_eq_getElem->Ag,getElem?_map->BO,getElem?_cons_zero->Ad,getElem?_cons_succ->Af,getElem_of_mem->CG,any_eq_false->VZ,any_eq_true->WW,getElem_mem->CU,getElem_map->MX
open Nat renaming mul_one->I7,le_refl->Ae,zero_le->BH,lt_or_ge->Ho
open Array renaming getElem?_eq_some_iff->Az
open Go.Lib renaming hid->Aa
open Option renaming map_some->Dw
open Int renaming ofNat->CE
namespace Go.Proofs.YtjcppneoncpdbaaGreatDoor
open Go.RowKit Go.Maps Go.Shelf
def U7(l:List Int):List Value:=l.map (Value.int .i64)
theorem Afn(a b:List Int):U7 (a++b)=U7 a++U7 b:=Gn
theorem MW(l:List Int):(FX l).length=l.length:=mM _
theorem Afo(l:List Int):∀u∈U7 l,u.oneCell'=true:=fun u hu=>by
 obtain⟨a,_,rfl⟩:=BX.1 hu;rfl
theorem Acp{w:World}{base:Nat}{v:Value}(ss:List Int)(h:w.ownsRow base 3 1 v ss.length (U7 ss))(hb:base<=w.heap.size)(hs:ss.length<=1000000000):
 Calls Tryz.prog 73 #[v] w fun e w'=>e= .returned (.tuple #[])/\w'.ownsRow base 3 1 v ss.length (U7 (FX ss))/\Below base w w':=by
 rcases h.2 with⟨rfl,h2⟩| ⟨g,cap,cur,rfl,hB,hg,hnc,hcm,hcs,ht⟩
 ·have he:ss=[]:=List.eq_nil_of_length_eq_zero h2;subst he;refine(AnyM.slices_Sort_int_none Tryz.sortA none 0 w).mono ?_;rintro e w'⟨rfl,rfl⟩;exact⟨rfl,by simpa [FX,U7]using h,Below.refl _ _⟩
 ·rw [I7]at ht;refine(AnyM.slices_Sort_int Tryz.sortA g 0 cap ss w (holds_of_blockI hg ht) (Az.1 hg).1 (by omega)).mono ?_;rintro e w'⟨rfl,n,os,rfl⟩;refine⟨rfl,ownsRow_sortedI (mM _) hB hg hnc hcm hcs,?_⟩;exact(Below.refl _ _).grown (grownBy_sortedI _) hb (fun k hk=>by injection hk with hk;omega)
theorem Acr{w:World}{A:Option Addr}{c:Nat}(l:List Int)(hr:Rd w A (l.length*1) (U7 l))(hs:l.length<=100000):
 Calls Tryz.prog 72 #[.slice A l.length c] w fun e w'=>∃u,e= .returned u/\w'.ownsRow w.heap.size 3 1 u l.length (U7 l)/\Below w.heap.size w w':=by
 have q1:=fun W=>Lib.run_eql_slice_nil (P:=Tryz.prog) W 59 3 A l.length c 0 0 Tryz.underlying59
 cases A with
 | none=>
   have hs0:l=[]:=by
    by_cases e:l=[]
    ·exact e
    ·obtain⟨b,off,e2,_⟩:=hr.2 (by have:=List.length_pos_iff.2 e;omega);cases e2
   subst hs0;simp only [List.length_nil]at q1;clear hr;go_enter Tryz.func72,Tryz.ntmps72
   go_wp2_with fail
   go_ret;exact⟨_,rfl,⟨by simp [U7],.inl ⟨rfl,rfl⟩⟩,Below.refl _ _⟩
 | some a=>
   have HR:=Aa hr;have HC:=Aa hs;have hb0:Below w.heap.size w (w.alloc (.cells #[] 3)):=(Below.refl _ _).alloc (Ae _) _;have HB0:=Aa hb0;have HO:Hid ((w.alloc (.cells #[] 3)).ownsRow w.heap.size 3 1 (.slice (some ⟨w.heap.size,0,none⟩) 0 0) 0 []):=Aa ⟨rfl,.inr ⟨w.heap.size,0,#[],rfl,Ae _,heap_alloc_new _ _,Ae _,by decide,rfl,rfl⟩⟩;clear hb0 hr hs;go_enter Tryz.func72,Tryz.ntmps72
   go_wp2_with(at_builtin;refine Jv rfl (.tmp 5) (.tmp 6) 59 rfl Tryz.UU (by decide) w.heap.size (.slice (some ⟨w.heap.size,0,none⟩) 0 0) 0 [] rfl HO.out (some a) l.length c (U7 l) rfl (Rd.below HR.out HB0.out) (Afo l) (by have:=HC.out;omega) (by decide) (by simp) ?_;intro v' w' hO hB hK)
   go_ret;exact⟨_,rfl,by simpa using hO,HB0.out.trans hB⟩
end Go.Proofs.YtjcppneoncpdbaaGreatDoor
namespace Go.Proofs.YtjcppneoncpdbaaGreatDoor
open Go.RowKit
theorem yS(a:List Int)(A B:Option Addr)(c d:Nat)(w:World)(hl:a.length<=100000)(ha:Rd w A a.length (U7 a))(hb:Rd w B a.length (U7 a)):
 Calls Tryz.prog 33 #[.slice A a.length c,.slice B a.length d] w fun e w'=>e= .returned (.bool true)/\Dr w w':=by
 have HA:=Aa ha;have HB:=Aa hb;obtain⟨n,hn⟩:∃n,n=a.length:=⟨_,rfl⟩;have HN:=Aa hn;rw [<-hn]at hl HA HB⊢;have t2:((n:Int)!=(n:Int))=false:=by simp
 clear ha hb hn;go_enter Tryz.func33,Tryz.ntmps33
 go_wp2_with fail
 go_loopw [13](fun i wr=>∃k:Nat,k<=n/\i= .int .i64 (k:Nat)/\Dr w wr)(fun i _=>n- (intOf i).toNat)
 case atStart=>exact⟨0,BH _,rfl,Dr.refl _⟩
 case round=>
  obtain⟨k,hk,rfl,hdr⟩:=hrel;have HD:=Aa hdr;clear hdr;by_cases hlt:k<n
  ·have hkl:k<a.length:=by have:=HN.out;omega
   obtain⟨ba,oa,rfl,_,qa⟩:=(Rd.below HA.out (HD.out.below _)).2 (by omega);obtain⟨bb,ob,rfl,_,qb⟩:=(Rd.below HB.out (HD.out.below _)).2 (by omega);have q1:wr.cell? ⟨ba,oa+k,none⟩=some (.int .i64 a[k]):=by rw [qa k hlt];simp [U7,hkl]
   have q2:wr.cell? ⟨bb,ob+k,none⟩=some (.int .i64 a[k]):=by rw [qb k hlt];simp [U7,hkl]
   have hx1:(k:Int)<(n:Int):=by omega
   have hx2:decide ((k:Int)<(n:Int))=true:=decide_eq_true hx1;have hx5:decide (k<n)=true:=decide_eq_true hlt;have hwk:IntKind.i64.wrap ((k:Int)+1)=(k:Int)+1:=IntWalk.i64_in _ (by omega);have t3:(a[k]!=a[k])=false:=by simp
   clear qa qb;generalize a[k]=y at*
   go_wp2_with fail
   go_quiet(fail)
   go_wp2_with fail
   go_roundw
   case rel=>exact⟨k+1,by omega,by go_num,by first| exact HD.out.trans (Dr.one _ _)| exact HD.out⟩
   case measure=>simp [intOf];omega
  ·have hx2:decide ((k:Int)<(n:Int))=false:=decide_eq_false (by omega);have hx5:decide (k<n)=false:=decide_eq_false hlt
   go_wp2_with fail
   go_ret;exact⟨rfl,HD.out⟩
theorem Aio{w:World}{base n k c:Nat}{A:Option Addr}{e:TypeId}{xs:List Value}(h:w.ownsRow base e k (.slice A n c) n xs):∀a,A=some a->base<=a.block/\a.block<w.heap.size:=fun a ea=>by
 rcases h.2 with⟨h1,_⟩| ⟨g,cap,cur,h1,h2,h3,_⟩
 ·simp only [Value.slice.injEq]at h1;rw [h1.1]at ea;cases ea
 ·simp only [Value.slice.injEq]at h1;rw [h1.1]at ea;injection ea with ea
  rw [<-ea];exact⟨h2,(Az.1 h3).1⟩
theorem Afp{w:World}{base n k:Nat}{v:Value}{e:TypeId}{xs:List Value}(h:w.ownsRow base e k v n xs):∀g,v.ownBlock=some g->base<=g/\g<w.heap.size:=fun g eg=>by
 rcases h.2 with⟨h1,_⟩| ⟨g',cap,cur,h1,h2,h3,_⟩
 ·rw [h1]at eg;cases eg
 ·rw [h1]at eg;injection eg with eg
  rw [<-eg];exact⟨h2,(Az.1 h3).1⟩
theorem Rd.kept{w w':World}{A:Option Addr}{n:Nat}{xs:List Value}{r:Option Nat}(h:Rd w A n xs)(k:Kept w w' r)(hr:∀a,A=some a->r≠some a.block):Rd w' A n xs:=by
 refine⟨h.1,fun hn=> ?_⟩;obtain⟨b,off,e,hb,hc⟩:=h.2 hn;exact⟨b,off,e,Nat.lt_of_lt_of_le hb k.1,fun j hj=>(World.cell?_of_block (w:=w) (k.2 b hb (fun e2=>hr _ e e2.symm))).trans (hc j hj)⟩
theorem yT{l:List Int}(h:Nk l=true){i:Nat}{a b:Int}(ha:l[i]? =some a)(hb:l[i+1]? =some b):a≠b:=by
 obtain⟨h1,e1⟩:=CB.1 ha;obtain⟨h2,e2⟩:=CB.1 hb;have:=Z4 h i h2
 rwa [e1,e2]at this
theorem Acs{w:World}{A:Option Addr}{l:List (List UInt8×UInt64)}(h:Rd w A (l.length*2) ((l.map itV).flatten))(k:Nat)(hk:k<l.length):∃b off,A=some ⟨b,off,none⟩/\b<w.heap.size/\w.cell? ⟨b,off+k*2,none⟩=some (.string ⟨l[k].1.toArray⟩)/\w.cell? ⟨b,off+k*2+1,none⟩=some (.int .u64 (l[k].2.toNat:Int)):=by
 obtain⟨b,off,e,hb,hc⟩:=h.2 (by omega);have key:∀i,i<2->w.cell? ⟨b,off+k*2+i,none⟩=(itV l[k])[i]? :=fun i hi=>by
  rw [Nat.add_assoc,hc (k*2+i) (by omega)];exact flat_get itV 2 (fun _=>rfl) l k i hk hi
 exact⟨b,off,e,hb,key 0 (by decide),key 1 (by decide)⟩
section
variable{w w':World}{x d p L:Nat}{s:St}{F:Nat->Prop}
theorem mendReach(h:Ix w x d p L s F){items:List (List UInt8×UInt64)}{met:List Int}(hs:EH s=some (items,met)){l:List Int}(ho:Ht s items (FX met)=some l)(hl:l.length<=100000)(hd:Nk (FX l)=true):
 Calls Tryz.prog 31 #[.pointer (some ⟨d,0,none⟩),.pointer (some ⟨p,0,none⟩),.pointer (some ⟨x,0,none⟩)] w fun e w'=>∃v,e= .returned (.tuple #[v,.int .i64 0])/\w'.ownsRow w.heap.size 3 1 v l.length (U7 (FX l))/\Below w.heap.size w w':=by
 have hL0:=h.sys.pos.1;have t0:(((L*64:Nat):Int)==0)=false:=by rw [beq_eq_false_iff_ne];omega
 have hsz:=h.sys.size;generalize L*64=sz at hsz t0;have wR:=Aa hsz;have HN:=Aa (VU h);have HX:=Aa h;have HS:=Aa hs;have HO:=Aa ho;have HL:=Aa hl;have HD:=Aa hd;clear hsz h hs ho hl hd hL0;go_enter Tryz.func31,Tryz.ntmps31
 go_wp2_with fail
 refine wR.out.mono ?_;rintro e w0⟨rfl,rfl⟩;clear wR
 go_wp2_with fail
 refine HN.out.mono ?_;rintro e w1⟨hb1,hp1⟩;rw [HS.out]at hp1;obtain⟨v1,rfl,ho1,hm1⟩:=hp1;obtain⟨A1,c1,rfl,hc1,hr1⟩:=Ea ho1;rw [show(Agg met).map (Value.int .i64)=U7 (FX met)from rfl]at hr1;have HB1:=Aa hb1;have HR1:=Aa hr1;have Acu:=Aa (aP (HX.out.below hb1));clear HN ho1 hb1 hr1 hc1
 go_wp2_with fail
 refine Acu.out.mono ?_;rintro e w2⟨hb2,hp2⟩;rw [HS.out]at hp2;obtain⟨v2,rfl,ho2,hm2⟩:=hp2;obtain⟨A2,c2,rfl,hc2,hr2⟩:=Ea ho2;have HB2:=Aa (HB1.out.trans (hb2.mono HB1.out.size));have HR2:=Aa hr2;have Aip:=Rd.below HR1.out hb2;have HLm:Hid ((FX met).length<=100000):=Aa (by have:=UD HO.out;have:=HL.out;omega);rw [show met.length=(FX met).length from(MW met).symm]at Aip;rw [show met.length=(FX met).length from(MW met).symm];have SL:=Aa (Acr (c:=c1) (FX met) Aip HLm.out);clear Acu ho2 hb2 hr2 hc2 Aip HR1
 go_wp2_with fail
 refine SL.out.mono ?_;rintro e w3⟨v3,rfl,ho3,hb3⟩;have HB3:=Aa hb3;have dK:=Aa ho3;clear SL hb3 ho3
 go_wp2_with fail
 go_loopw [11,50](fun u i wr=>∃(k:Nat)(acc:List Int),k<=items.length/\i= .int .i64 (k:Nat)/\Ht s (items.take k) (FX met)=some acc/\acc.length<=100000/\wr.ownsRow w2.heap.size 3 1 u acc.length (U7 acc)/\Below w2.heap.size w2 wr)(fun _ i _=>items.length- (intOf i).toNat)
 case atStart=>exact⟨0,FX met,BH _,rfl,rfl,HLm.out,dK.out,HB3.out⟩
 case round=>
  obtain⟨k,acc,hk,rfl,hac,hal,hown,hb⟩:=hrel;have HOr:=Aa hown;have Me:=Aa hb;have HAc:=Aa hac;clear hown hb dK HB3 hac;by_cases hlt:k<items.length
  ·obtain⟨b,off,rfl,hbw,q0,q1⟩:=Acs (Rd.below HR2.out Me.out) k hlt;have hx1:(k:Int)<(items.length:Int):=by omega
   have hx2:decide ((k:Int)<(items.length:Int))=true:=decide_eq_true hx1;have hx5:decide (k<items.length)=true:=decide_eq_true hlt;have hwk:IntKind.i64.wrap ((k:Int)+1)=(k:Int)+1:=IntWalk.i64_in _ (by omega);obtain⟨m,hm,hnx,hnl⟩:=nV HO.out hlt HAc.out;have ui:=Aa hnx;have HNl:Hid ((acc++m.map (·.off)).length<=100000):=Aa (by have:=HL.out;omega);have HM:=Aa hm;obtain⟨⟨ky,vl⟩,hit⟩:∃it,it=items[k]:=⟨_,rfl⟩;rw [<-hit]at q0 q1 HM;simp only at q0 q1 HM;obtain⟨w4,hw4⟩:∃w4,w4=wr.alloc (.cells #[.string ⟨ky.toArray⟩,.int .u64 (vl.toNat:Int)] 126):=⟨_,rfl⟩;have hb4:Below wr.heap.size wr w4:=hw4▸(Below.refl _ _).alloc (Ae _) _;have HB4:=Aa (Me.out.trans (hb4.mono Me.out.size));have YT:=Aa (KX HOr.out hb4);have Acv:=HB2.out.trans (HB4.out.mono HB2.out.size);have qx:=Aa (af (HX.out.below Acv).sys vl);have mX:=Aa hw4;clear hm hnx hnl hit hw4 hb4 Acv HOr Me
   go_wp2_with fail
   rw [<-mX.out];refine qx.out.mono ?_;rintro e w5⟨hb5,hp5⟩;rw [HM.out]at hp5;obtain⟨lT,v5,rfl,V8⟩:=hp5;have hfew:=lT.few;have HOb:=Afp YT.out;obtain⟨A5,c5,rfl,hc5,oh⟩:=dU V8;have hap:∀a,A5=some a->a.block<w5.heap.size/\u11.ownBlock≠some a.block:=fun a ea=>by
    obtain⟨h1,h2⟩:=Aio V8 a ea;exact⟨h2,fun e=>by have:=(HOb _ e).2;omega⟩
   have HAp:=Aa hap;have zn:=Aa oh;have Ou:=Aa (HB4.out.trans (hb5.mono HB4.out.size));have Z7:=Aa (KX YT.out hb5);clear qx V8 hb5 oh hap HOb lT YT HB4 hc5
   go_wp2_with fail
   go_loopw [11,67](fun u i wr=>∃j:Nat,j<=m.length/\i= .int .i64 (j:Nat)/\wr.ownsRow w2.heap.size 3 1 u (acc++(m.take j).map (·.off)).length (U7 (acc++(m.take j).map (·.off)))/\Below w2.heap.size w2 wr/\LkR wr A5 m/\∀a,A5=some a->a.block<wr.heap.size/\u.ownBlock≠some a.block)(fun _ i _=>m.length- (intOf i).toNat)
   case atStart=>exact⟨0,BH _,rfl,by simpa using Z7.out,Ou.out,zn.out,HAp.out⟩
   case round=>
    obtain⟨j,hj,rfl,hown,hb,hrd,hap⟩:=hrel;have dV:=Aa hown;have NH:=Aa hb;have HR6:=Aa hrd;have Aiq:=Aa hap;clear hown hb hrd hap HAp Z7 Ou zn;by_cases hjl:j<m.length
    ·have hy1:(j:Int)<(m.length:Int):=by omega
     have hy2:decide ((j:Int)<(m.length:Int))=true:=decide_eq_true hy1;have hy5:decide (j<m.length)=true:=decide_eq_true hjl;have hwj:IntKind.i64.wrap ((j:Int)+1)=(j:Int)+1:=IntWalk.i64_in _ (by omega);obtain⟨b,off,rfl,hbw,z0,z1,z2,z3,z4⟩:=HR6.out.at j hjl;have HTj:Hid (acc++(m.take (j+1)).map (·.off)=acc++(m.take j).map (·.off)++[m[j].off]):=Aa (by
      rw [List.take_succ_eq_append_getElem hjl,Gn,List.append_assoc];rfl)
     have hml:(acc++(m.take j).map (·.off)).length<=100000:=by
      have:=HNl.out;simp only [AQ,CZ,List.length_take]at this⊢;omega
     generalize m[j]=lk at*;obtain⟨lo,ls,ln,lg,lt⟩:=lk;simp only at z0 z1 z2 z3 z4 HTj;generalize(acc++(m.take j).map (·.off))=Q at*;obtain⟨w7,hw7⟩:∃w7,w7=wr.alloc (.cells #[.int .i64 lo,.int .u64 (ls.toNat:Int),.int .u64 (ln.toNat:Int),.bool lg,.string lt] 91):=⟨_,rfl⟩;have hb7:Below wr.heap.size wr w7:=hw7▸(Below.refl _ _).alloc (Ae _) _;have dI:=Aa (NH.out.trans (hb7.mono NH.out.size));have HO7:=Aa (KX dV.out hb7);have HR7:=Aa (HR6.out.below hb7);have hne:=(Aiq.out _ rfl).2;have hbl:=(Aiq.out _ rfl).1;simp only at hne hbl;have HA7:Hid (b<w7.heap.size):=Aa (by have:=hb7.size;omega);have HNe:=Aa hne;rw [hw7]at HO7 dI;have HW7:=Aa hw7;clear hw7 hb7 hne hbl dV NH HR6 Aiq
     go_wp2_with(at_builtin;refine DZ rfl (.tmp 71) (.tmp 74) 59 rfl Tryz.UU (wr.alloc (.cells #[.int .i64 lo,.int .u64 (ls.toNat:Int),.int .u64 (ln.toNat:Int),.bool lg,.string lt] 91)) w2.heap.size u11 Q.length (U7 Q) [.int .i64 lo] rfl (by exact HO7.out) rfl _ 1 rfl (by simp) rfl (by decide) (by intro u hu;simp at hu;subst hu;rfl) (by omega) (by decide) (by exact dI.out.size) ?_;intro g8 c8 w8 hO8 IM hK8 hg8)
     have HO8:=Aa hO8;have KC:=Aa (dI.out.trans IM);rw [<-HW7.out]at hK8 hg8;have HR8:=Aa (Rd.kept HR7.out hK8 (fun a ea=>by injection ea with ea;rw [<-ea];exact HNe.out));have HA8:Hid (b<w8.heap.size/\some g8≠some b):=Aa (by
      refine⟨by have:=hK8.1;have:=HA7.out;omega,fun e=> ?_⟩;injection e with e
      rcases hg8 with h| h
      ·exact HNe.out (by rw [h,e])
      ·have:=HA7.out;omega)
     clear hO8 IM hK8 hg8 HR7
     go_wp2_with fail
     go_roundw
     case rel=>exact⟨j+1,by omega,by go_num,by rw [HTj.out,AQ,Afn];exact HO8.out,KC.out,HR8.out,fun a ea=>by injection ea with ea;subst ea;exact HA8.out⟩
     case measure=>simp [intOf];omega
    ·have hy2:decide ((j:Int)<(m.length:Int))=false:=decide_eq_false (by omega);have hy5:decide (j<m.length)=false:=decide_eq_false hjl;have hjn:j=m.length:=by omega
     subst hjn;have HO7:Hid (wr.ownsRow w2.heap.size 3 1 u11 (acc++m.map (·.off)).length (U7 (acc++m.map (·.off)))):=Aa (by have:=dV.out;rwa [Qb]at this);clear dV
     go_wp2_with fail
     go_roundw
     case rel=>exact⟨k+1,_,by omega,by go_num,ui.out,HNl.out,HO7.out,NH.out⟩
     case measure=>simp [intOf];omega
  ·have hx2:decide ((k:Int)<(items.length:Int))=false:=decide_eq_false (by omega);have hx5:decide (k<items.length)=false:=decide_eq_false hlt;have hkn:k=items.length:=by omega
   subst hkn;have hac:=HAc.out;rw [Qb,HO.out]at hac;injection hac with hac
   subst hac;have zx:=Aa (Acp l HOr.out Me.out.size (by omega));clear HAc
   go_wp2_with fail
   refine zx.out.mono ?_;rintro e w6⟨rfl,uS,hb6⟩;obtain⟨A6,c6,rfl,hc6,Wx⟩:=Ea uS;have dV:=Aa uS;have NH:=Aa (HB2.out.trans ((Me.out.trans hb6).mono HB2.out.size));have HR6:=Aa Wx;have HSl:=Aa (MW l);have Zk:=Aa (aQ uS HB2.out.size);clear zx uS hb6 Wx HOr Me hc6
   go_wp2_with fail
   go_loopw [18](fun i wr=>∃j:Nat,1<=j/\(j<=l.length\/j=1)/\i= .int .i64 (j:Nat)/\Below w6.heap.size w6 wr)(fun i _=>l.length- (intOf i).toNat)
   case atStart=>exact⟨1,Ae _,.inr rfl,rfl,Below.refl _ _⟩
   case round=>
    obtain⟨j,hj1,hj2,rfl,hbq⟩:=hrel;have HBq:=Aa hbq;clear hbq;by_cases hjl:j<l.length
    ·have hy1:(j:Int)<(l.length:Int):=by omega
     have hy2:decide ((j:Int)<(l.length:Int))=true:=decide_eq_true hy1;have hy5:decide (j<l.length)=true:=decide_eq_true hjl;have hwj:IntKind.i64.wrap ((j:Int)+1)=(j:Int)+1:=IntWalk.i64_in _ (by omega);have hwm:IntKind.i64.wrap ((j:Int) -1)=((j-1:Nat):Int):=by rw [IntWalk.i64_in _ (by omega)];omega
     obtain⟨b,off,rfl,hbw,hcc⟩:=(Rd.below HR6.out HBq.out).2 (by omega);have z1:=hcc j (by omega);have z2:=hcc (j-1) (by omega);obtain⟨za,hza⟩:∃za,(FX l)[j]? =some za:=⟨_,Ag (by rw [HSl.out];exact hjl)⟩;obtain⟨zb,hzb⟩:∃zb,(FX l)[j-1]? =some zb:=⟨_,Ag (by rw [HSl.out];omega)⟩;rw [U7,BO,hza]at z1;rw [U7,BO,hzb]at z2;simp only [Dw]at z1 z2;have q1:(za==zb)=false:=by
      rw [beq_eq_false_iff_ne];exact fun e=>yT HD.out (i:=j-1) hzb (by rw [show j-1+1=j by omega];exact hza) e.symm
     have hm1:j-1<l.length:=by omega
     have hm2:decide (((j-1:Nat):Int)<(l.length:Int))=true:=decide_eq_true (by omega);have hm3:decide ((j-1:Nat)<l.length)=true:=decide_eq_true hm1;clear hcc hza hzb;generalize j-1=jm at*
     go_wp2_with fail
     go_quiet(fail)
     go_wp2_with fail
     go_roundw
     case rel=>exact⟨j+1,by omega,.inl (by omega),by go_num,HBq.out.trans ((Dr.one _ _).below _)⟩
     case measure=>simp [intOf];omega
    ·have hy2:decide ((j:Int)<(l.length:Int))=false:=decide_eq_false (by omega);have hy5:decide (j<l.length)=false:=decide_eq_false hjl
     go_wp2_with fail
     go_ret2;exact⟨_,rfl,KX Zk.out HBq.out,NH.out.trans (HBq.out.mono NH.out.size)⟩
end
def su(s:St)(slot:Nat)(items:List (List UInt8×UInt64)):Prop:=∀k(h:k<items.length),∃a t,NM s items[k].2=some (a::t)/\a.rc.stamp.toNat<=slot
section
variable{w w':World}{x d p L:Nat}{s:St}{F:Nat->Prop}
theorem Acw(h:Ix w x d p L s F){items:List (List UInt8×UInt64)}{met:List Int}(hs:EH s=some (items,met))(slot:UInt64)(hc:su s slot.toNat items):
 Calls Tryz.prog 66 #[.pointer (some ⟨d,0,none⟩),.pointer (some ⟨p,0,none⟩),.pointer (some ⟨x,0,none⟩),.int .u64 (slot.toNat:Int)] w fun e w'=>e= .returned (.int .i64 0)/\Below w.heap.size w w':=by
 have Acu:=Aa (aP h);have HX:=Aa h;have HS:=Aa hs;have HC:=Aa hc;clear h hs hc;go_enter Tryz.func66,Tryz.ntmps66
 go_wp2_with fail
 refine Acu.out.mono ?_;rintro e w2⟨hb2,hp2⟩;rw [HS.out]at hp2;obtain⟨v2,rfl,ho2,hm2⟩:=hp2;obtain⟨A2,c2,rfl,hc2,hr2⟩:=Ea ho2;have HB2:=Aa hb2;have HR2:=Aa hr2;clear Acu ho2 hb2 hr2 hc2
 go_wp2_with fail
 go_loopw [26](fun i wr=>∃k:Nat,k<=items.length/\i= .int .i64 (k:Nat)/\Below w2.heap.size w2 wr)(fun i _=>items.length- (intOf i).toNat)
 case atStart=>exact⟨0,BH _,rfl,Below.refl _ _⟩
 case round=>
  obtain⟨k,hk,rfl,hb⟩:=hrel;have Me:=Aa hb;clear hb;by_cases hlt:k<items.length
  ·obtain⟨b,off,rfl,hbw,q0,q1⟩:=Acs (Rd.below HR2.out Me.out) k hlt;have hx1:(k:Int)<(items.length:Int):=by omega
   have hx2:decide ((k:Int)<(items.length:Int))=true:=decide_eq_true hx1;have hx5:decide (k<items.length)=true:=decide_eq_true hlt;have hwk:IntKind.i64.wrap ((k:Int)+1)=(k:Int)+1:=IntWalk.i64_in _ (by omega);obtain⟨a,t,hl,hst⟩:=HC.out k hlt;obtain⟨⟨ky,vl⟩,hit⟩:∃it,it=items[k]:=⟨_,rfl⟩;rw [<-hit]at q0 q1 hl;simp only at q0 q1 hl;have HM:=Aa hl;obtain⟨w4,hw4⟩:∃w4,w4=wr.alloc (.cells #[.string ⟨ky.toArray⟩,.int .u64 (vl.toNat:Int)] 126):=⟨_,rfl⟩;have hb4:Below wr.heap.size wr w4:=hw4▸(Below.refl _ _).alloc (Ae _) _;have HB4:=Aa (Me.out.trans (hb4.mono Me.out.size));have Acv:=HB2.out.trans (HB4.out.mono HB2.out.size);have qx:=Aa (af (HX.out.below Acv).sys vl);have mX:=Aa hw4;clear hl hit hw4 hb4 Acv Me
   go_wp2_with fail
   rw [<-mX.out];refine qx.out.mono ?_;rintro e w5⟨hb5,hp5⟩;rw [HM.out]at hp5;obtain⟨lT,v5,rfl,V8⟩:=hp5;have hfew:=lT.few;obtain⟨A5,c5,rfl,hc5,oh⟩:=dU V8;have Ou:=Aa (HB4.out.trans (hb5.mono HB4.out.size));obtain⟨b5,Apr,rfl,jE,z0,z1,z2,z3,z4⟩:=oh.at 0 (by simp);obtain⟨n,hn⟩:∃n,n=(a::t).length:=⟨_,rfl⟩;have hn0:0<n:=by rw [hn];simp
   rw [<-hn];rw [Nat.zero_mul,Nat.add_zero]at z0 z1 z2 z3 z4;simp only [List.getElem_cons_zero]at z1;have t0:decide ((0:Int)<(n:Int))=true:=decide_eq_true (by omega);have t1:decide ((slot.toNat:Int)<(a.rc.stamp.toNat:Int))=false:=decide_eq_false (by omega);have t2:decide (slot.toNat<a.rc.stamp.toNat)=false:=decide_eq_false (by omega);generalize a.rc.stamp=st at*;clear qx V8 hb5 oh lT hc5 hn z0 z2 z3 z4 hst hfew HM
   go_wp2_with fail
   go_loopw [15](fun i wq=>i= .int .i64 0/\wq=w5)(fun _ _=>0)
   case atStart=>exact⟨rfl,rfl⟩
   case round=>
    obtain⟨rfl,rfl⟩:=hrel
    go_wp2_with fail
    go_roundw
    case rel=>exact⟨k+1,by omega,by go_num,Ou.out⟩
    case measure=>simp [intOf];omega
  ·have hx2:decide ((k:Int)<(items.length:Int))=false:=decide_eq_false (by omega);have hx5:decide (k<items.length)=false:=decide_eq_false hlt
   go_wp2_with fail
   go_ret;exact⟨rfl,HB2.out.trans (Me.out.mono HB2.out.size)⟩
theorem Acx{ws:Nat->UInt64}{own:Nat->Prop}{sh:Sh}(hL0:0<L)(hL:L<=1024)(hsh:shapeOf L=some sh)(h:Dev w d L ws M0 (fun _=>0) own)(hT:Tabs w)(g1:¬own 0)(g2:¬own 1)
 (h8:wordsAt ws 0 8=wordsOf sh)(hall:∀i,i<sh.BM->FI (ws (sh.table/8+i)).toNat=true){s:St}(hst:s={sh:=sh,ws:=ws,tk:=wordsAt ws (sh.table/8) sh.BM,hd:=List.replicate sh.BM 0})
 {items:List (List UInt8×UInt64)}{met:List Int}(hs:EH s=some (items,met)){l:List Int}(ho:Ht s items (FX met)=some l)(hl:l.length<=100000)(hd:Nk (FX l)=true)(hsl:(ws 8).toNat<=60000)(hc:su s (ws 8).toNat items)
 (hF:∀(W:World)(p x:Nat)(F:Nat->Prop),Ix W x d p L s F->Calls Tryz.prog 67 #[.pointer (some ⟨d,0,none⟩),.pointer (some ⟨p,0,none⟩),.pointer (some ⟨x,0,none⟩)] W fun e w'=>e= .returned (.int .i64 0)/\Below W.heap.size W w'):
 Calls Tryz.prog 29 #[.pointer (some ⟨d,0,none⟩)] w fun e w'=>∃p x F,e= .returned (.tuple #[.agg #[.pointer (some ⟨p,0,none⟩),.pointer (some ⟨x,0,none⟩),.int .u64 ((ws 8).toNat:Int)],.int .i64 0])/\
  Ix w' x d p L s F/\Below w.heap.size w w'/\(∀b,F b->own b\/w.heap.size<=b)/\w.heap.size<=x:=by
 have htl:=hT.lt;obtain⟨w1,hw1⟩:∃w1,w1=w.alloc (.cells #[.pointer none,.pointer none,.int .u64 0] 69):=⟨_,rfl⟩;have hb1:Below w.heap.size w w1:=hw1▸(Below.refl _ _).alloc (Ae _) _;have hB1:BI w1 w.heap.size 69 [.pointer none,.pointer none,.int .u64 0]:=hw1▸heap_alloc_new _ _;have zq:=Aa hB1;have HO:=Aa (ZV hL0 hL hsh (by decide) (h.below hb1) (hT.below hb1) g1 g2 h8 hall);rw [<-hst]at HO;have HB1:=Aa hb1;have HW1:=Aa hw1;have hs1:w1.heap.size=w.heap.size+1:=by rw [hw1];simp
 have Aoo:Hid (∀b,own b->b<w.heap.size):=Aa (fun b hb=>h.lt b hb);have h88:s.ws 8=ws 8:=by rw [hst]
 have H88:=Aa h88;have HS:=Aa hs;have HRc:=Aa (fun(W:World)(p x:Nat)(F:Nat->Prop)(hx:Ix W x d p L s F)=>mendReach hx hs ho hl hd);have U6:=Aa (fun(W:World)(p x:Nat)(F:Nat->Prop)(hx:Ix W x d p L s F)=>Acw hx hs (ws 8) hc);have HFr:=Aa hF;have t6:decide ((60000:Int)<((ws 8).toNat:Int))=false:=decide_eq_false (by omega);have t7:decide (60000<(ws 8).toNat)=false:=decide_eq_false (by omega);have HLe:Hid (8<8*L):=Aa (by have:=(Io hsh).fits;have:=(Io hsh).NR;have:=(Io hsh).BM;omega);clear h hT g1 g2 h8 hall hst hs ho hd hsl hc hF hw1 hb1 hB1 h88 hsh;go_enter Tryz.func29,Tryz.ntmps29
 go_wp2_with fail
 rw [<-HW1.out];refine HO.out.mono ?_;rintro e w2⟨p,F,rfl,hsy2,hb2,hF2⟩;have HB2:=Aa hb2;have HOx:=Aa (YB hsy2);have HF2:=Aa hF2;clear HO hsy2 hb2 hF2
 go_wp2_with fail
 refine HOx.out.mono ?_;rintro e w3⟨hb3,hp3⟩;rw [HS.out]at hp3;obtain⟨x,rfl,hx3,hxs⟩:=hp3;have HB3:=Aa (HB2.out.trans (hb3.mono HB2.out.size));have HX3:=Aa hx3;have HXs:=Aa hxs;have HR3:=Aa (HRc.out _ _ _ _ hx3);clear HOx hb3 hx3 hxs HRc
 go_wp2_with fail
 refine HR3.out.mono ?_;rintro e w4⟨v4,rfl,Z5,hb4⟩;obtain⟨A4,c4,rfl,hc4,hr4⟩:=Ea Z5;have HB4:=Aa (HB3.out.trans (hb4.mono HB3.out.size));have hx4:=HX3.out.below hb4;have vT:=Aa hx4;have HLd:=Aa (hx4.sys.load 8 HLe.out);rw [H88.out,show((8*8:Nat):Int)=64 from rfl]at HLd;have UI:=Aa (U6.out _ _ _ _ hx4);clear HR3 Z5 hb4 hr4 hc4 hx4 U6
 go_wp2_with fail
 refine HLd.out.mono ?_;rintro e w5⟨rfl,rfl⟩;clear HLd
 go_wp2_with fail
 refine UI.out.mono ?_;rintro e w6⟨rfl,hb6⟩;have NH:=Aa (HB4.out.trans (hb6.mono HB4.out.size));have hx6:=vT.out.below hb6;have WQ:=Aa hx6;have Al7:=Aa (HFr.out _ _ _ _ hx6);clear UI hb6 hx6 HFr
 go_wp2_with fail
 refine Al7.out.mono ?_;rintro e w7⟨rfl,hb7⟩;have dI:=Aa (NH.out.trans (hb7.mono NH.out.size));have gV:=Aa (WQ.out.below hb7);have k7:=zq.out.below dI.out zq.out.lt;have f0:=k7.frozen 0;have f1:=k7.frozen 1;have f2:=k7.frozen 2;have e0:=k7.cell 0;have e1:=k7.cell 1;have e2:=k7.cell 2;simp only [Ad,Af]at e0 e1 e2;have HK7:=Aa k7;clear Al7 hb7 k7
 go_wp2_with fail
 obtain⟨W,hW⟩:∃W,W=((w7.setCell ⟨w.heap.size,0,none⟩ (.pointer (some ⟨p,0,none⟩))).setCell ⟨w.heap.size,1,none⟩ (.pointer (some ⟨x,0,none⟩))).setCell ⟨w.heap.size,2,none⟩ (.int .u64 ((ws 8).toNat:Int)):=⟨_,rfl⟩;rw [<-hW];have tg:Touch (fun k=>k=w.heap.size) w7 W:=by rw [hW];exact(((Touch.refl (fun k=>k=w.heap.size) w7).setCell (p:=⟨w.heap.size,0,none⟩) (.inl rfl) _).setCell (p:=⟨w.heap.size,1,none⟩) (.inl rfl) _).setCell (p:=⟨w.heap.size,2,none⟩) (.inl rfl) _
 have bg:BI W w.heap.size 69 [.pointer (some ⟨p,0,none⟩),.pointer (some ⟨x,0,none⟩),.int .u64 ((ws 8).toNat:Int)]:=by rw [hW];exact((HK7.out.AU 0 _).AU 1 _).AU 2 _
 have y0:=bg.cell 0;have y1:=bg.cell 1;have y2:=bg.cell 2;simp only [Ad,Af]at y0 y1 y2;refine bodyPost_ret (v:= .tuple #[.agg #[.pointer (some ⟨p,0,none⟩),.pointer (some ⟨x,0,none⟩),.int .u64 ((ws 8).toNat:Int)],.int .i64 0]) (by simp [results,Tryz.results29,go_sem,y0,y1,y2]) rfl ?_;have hs7:=dI.out.size;have hs2:=HB2.out.size;have hF2:∀b,F b->own b\/w.heap.size+1<=b:=fun b hb=>(HF2.out b hb).imp id (fun h=>by omega)
 have hFn:∀b,F b->¬b=w.heap.size:=fun b hb e=>(hF2 b hb).elim (fun h=>by have:=Aoo.out b h;omega) (fun h=>by omega)
 have hxs:=HXs.out;refine⟨p,x,F,rfl,⟨gV.out.sys.keep tg hFn (fun e=>by omega) (fun e=>by omega),gV.out.box.touch tg (fun e=>by omega),gV.out.out⟩,HB1.out.trans ((dI.out.mono HB1.out.size).trans (tg.below (by omega) (fun k e=>by omega))),fun b hb=>(hF2 b hb).imp id (fun h=>by omega),by omega⟩
end
def WV(l:List Int)(x:Int):Nat:=l.countP fun y=>decide (y<x)
theorem lU(l:List Int)(x:Int)(i:Nat)(hi:i<=l.length)(h1:∀t(h:t<l.length),t<i->l[t]<x)(h2:∀t(h:t<l.length),i<=t->x<=l[t]):WV l x=i:=by
 unfold WV
 conv=>lhs;rw [<-List.take_append_drop i l]
 rw [List.countP_append];have e1:(l.take i).countP (fun y=>decide (y<x))=i:=by
  have:(l.take i).length=i:=by simp;omega
  conv=>rhs;rw [<-this]
  rw [List.countP_eq_length];intro a ha;obtain⟨t,ht,rfl⟩:=CG ha;simp at ht;simpa using h1 t (by omega) (by omega)
 have e2:(l.drop i).countP (fun y=>decide (y<x))=0:=by
  rw [List.countP_eq_zero];intro a ha;obtain⟨t,ht,rfl⟩:=CG ha;simp at ht;have:=h2 (i+t) (by omega) (by omega);simp;omega
 omega
theorem lV(l:List Int)(x:Int)(i:Nat)(h1:∀t(h:t<l.length),t<i->l[t]<x)(h2:∀t(h:t<l.length),i<=t->x<=l[t])
 (hs:∀a b(ha:a<l.length)(hb:b<l.length),a<b->l[a]<l[b])(hi:i<l.length)(hx:l[i]≠x):(l.any fun y=>y==x)=false:=by
 rw [VZ];intro a ha;obtain⟨t,ht,rfl⟩:=CG ha;simp;rcases Ho t i with h| h
 ·have:=h1 t ht h;omega
 ·rcases Ho i t with h'| h'
  ·have:=hs i t hi ht h';have:=h2 i hi (Ae _);omega
  ·obtain rfl:t=i:=by omega
   exact hx
theorem gu(l:List Int)(x:Int)(h1:∀t(h:t<l.length),t<l.length->l[t]<x):(l.any fun y=>y==x)=false:=by
 rw [VZ];intro a ha;obtain⟨t,ht,rfl⟩:=CG ha;have:=h1 t ht ht;simp;omega
theorem lW(l:List Int)(x:Int)(i:Nat)(hi:i<l.length)(hx:l[i]=x):(l.any fun y=>y==x)=true:=by
 rw [WW];exact⟨l[i],CU _,by simpa using hx⟩
theorem Acy{w:World}{A:Option Addr}{l:List Int}(h:Rd w A l.length (U7 l)){t:Nat}(ht:t<l.length):∃(_:t<l.length)(p off:Nat),A=some ⟨p,off,none⟩/\p<w.heap.size/\w.cell? ⟨p,off+t,none⟩=some (.int .i64 l[t]):=by
 obtain⟨b,off,e,hb,hc⟩:=h.2 (by omega);refine⟨ht,b,off,e,hb,?_⟩;rw [hc t ht,U7,BO,Ag ht];rfl
theorem lX(x:Int)(w:World):Calls Tryz.prog 187 #[.int .i64 x] w fun e w'=>e= .returned (.bool false)/\w=w':=by
 go_enter Tryz.func187,Tryz.ntmps187;go_wp2;go_ret;exact⟨by simp,rfl⟩
theorem VW(x:Int)(w:World):Calls Tryz.prog 156 #[.int .i64 x] w fun e w'=>e= .returned (.bool false)/\w=w':=by
 go_enter Tryz.func156,Tryz.ntmps156;go_wp2;go_ret;exact⟨by simp,rfl⟩
theorem U1(x y:Int)(w:World):Calls Tryz.prog 155 #[.int .i64 x,.int .i64 y] w fun e w'=>e= .returned (.bool (decide (x<y)))/\w=w':=by
 go_enter Tryz.func155,Tryz.ntmps155
 go_wp2_with(go_at_call 187;refine(lX _ _).mono ?_;rintro e w'⟨rfl,rfl⟩)
 go_ret;exact⟨rfl,rfl⟩
theorem lY(A:Option Addr)(n c:Nat)(l:List Int)(x:Int)(w:World)(hbig:n<=1000000)(hln:l.length=n)(h:Rd w A n (U7 l))(hs:∀a b(ha:a<l.length)(hb:b<l.length),a<b->l[a]<l[b]):
 Calls Tryz.prog 116 #[.slice A n c,.int .i64 x] w fun e w'=>e= .returned (.tuple #[.int .i64 (WV l x:Nat),.bool (l.any fun y=>y==x)])/\w=w':=by
 subst hln;have S:=Aa hs;clear hs;go_enter Tryz.func116,Tryz.ntmps116;go_wp2
 go_loopg [7,8]l.length(fun g s7 s8 wr=>∃lo hi:Nat,s7= .int .i64 lo/\s8= .int .i64 hi/\lo<=hi/\hi<=l.length/\hi-lo<=g/\wr=w/\(∀t(h:t<l.length),t<lo->l[t]<x)/\(∀t(h:t<l.length),hi<=t->x<=l[t]))
 case atStart=>exact⟨0,l.length,rfl,rfl,BH _,Ae _,by omega,rfl,fun t _ ht=>absurd ht (Nat.not_lt_zero _),fun t h1 h2=>by omega⟩
 case round=>
  obtain⟨lo,hi,rfl,rfl,hlh,hin,hg,rfl,h1,h2⟩:=hrel;have I1:=Aa h1;have I2:=Aa h2;clear h1 h2;by_cases hlt:lo<hi
  ·obtain⟨hq,p,off,rfl,hp,hc⟩:=Acy h (show(lo+hi)/2<l.length by omega);generalize hy:l[(lo+hi)/2]=y at hc;have Y:=Aa hy;clear hy;by_cases hyx:y<x
   ·have hd:decide (y<x)=true:=decide_eq_true hyx
    go_wp2_with(go_at_call 155;refine(U1 _ _ _).mono ?_;rintro e w'⟨rfl,rfl⟩)
    go_roundg(hi- ((lo+hi)/2+1))
    case measure=>omega
    case rel=>
     refine⟨(lo+hi)/2+1,hi,by rw [show((lo:Int)+(hi:Int))/2+1=(((lo+hi)/2+1:Nat):Int)by omega],rfl,by omega,hin,Ae _,rfl,fun t ht htl=> ?_,I2.out⟩;rcases Ho t ((lo+hi)/2)with h'| h'
     ·have:=S.out t ((lo+hi)/2) ht hq h';rw [Y.out]at this;omega
     ·obtain rfl:t=(lo+hi)/2:=by omega
      rw [Y.out];exact hyx
   ·have hd:decide (y<x)=false:=decide_eq_false hyx
    go_wp2_with(go_at_call 155;refine(U1 _ _ _).mono ?_;rintro e w'⟨rfl,rfl⟩)
    go_roundg((lo+hi)/2-lo)
    case measure=>omega
    case rel=>
     refine⟨lo,(lo+hi)/2,rfl,by rw [show((lo:Int)+(hi:Int))/2=(((lo+hi)/2:Nat):Int)by omega],by omega,by omega,Ae _,rfl,I1.out,fun t ht htn=> ?_⟩;rcases Ho ((lo+hi)/2) t with h'| h'
     ·have:=S.out ((lo+hi)/2) t hq ht h';rw [Y.out]at this;omega
     ·obtain rfl:t=(lo+hi)/2:=by omega
      rw [Y.out];omega
  ·have:hi=lo:=by omega
   subst this;have E:=Aa (lU l x hi hin I1.out I2.out);by_cases hn:hi<l.length
   ·obtain⟨hq,p,off,rfl,hp,hc⟩:=Acy h hn;generalize hy:l[hi]=y at hc;have Y:=Aa hy;clear hy;by_cases hyx:y=x
    ·have E2:=Aa (lW l x hi hn (by rw [Y.out];exact hyx));have hd:(y==x)=true:=by rw [beq_iff_eq];exact hyx
     clear hyx
     go_wp2_with(go_at_call 156;refine(VW _ _).mono ?_;rintro e w'⟨rfl,rfl⟩)
     go_ret2;exact⟨by rw [E.out,E2.out];rfl,rfl⟩
    ·have E2:=Aa (lV l x hi I1.out I2.out S.out hn (by rw [Y.out];exact hyx));have hd:(y==x)=false:=by rw [beq_eq_false_iff_ne];exact hyx
     clear hyx
     go_wp2_with(go_at_call 156;refine(VW _ _).mono ?_;rintro e w'⟨rfl,rfl⟩)
     go_ret2;exact⟨by rw [E.out,E2.out];rfl,rfl⟩
   ·have hle:hi=l.length:=by omega
    have E2:=Aa (gu l x (fun t ht _=>I1.out t ht (by omega)));clear hle
    go_wp2_with fail
    go_ret2;exact⟨by rw [E.out,E2.out];rfl,rfl⟩
section
variable{w w':World}{x d p L:Nat}{s:St}{F:Nat->Prop}
theorem Agi{l:List Nat}(h:l.Pairwise (·<·)):∀a b(ha:a<(l.map CE).length)(hb:b<(l.map CE).length),a<b->(l.map CE)[a]<(l.map CE)[b]:=fun a b ha hb hab=>by
 simp only [CZ]at ha hb;rw [MX,MX];have:=List.pairwise_iff_getElem.1 h a b ha hb hab;show(l[a]:Int)<(l[b]:Int);omega
theorem Air{l:List Nat}{k:Nat}(hk:k<l.length):((l.map CE).any fun y=>y==((l[k]:Nat):Int))=true:=by
 rw [WW];exact⟨((l[k]:Nat):Int),BX.2 ⟨l[k],CU _,rfl⟩,by simp⟩
theorem free_at{w:World}{A:Option Addr}{l:List Nat}{n:Nat}(hn:n=l.length)(h:Rd w A l.length (Zh l)){k:Nat}(hk:k<n):∃(b off y:Nat),A=some ⟨b,off,none⟩/\b<w.heap.size/\w.cell? ⟨b,off+k,none⟩=some (.int .i64 (y:Int))/\((l.map CE).any fun z=>z==(y:Int))=true:=by
 have hkl:k<l.length:=by omega
 obtain⟨b,off,u,rfl,hbw,hu,q0⟩:=h.at (k:=k) hkl;rw [Zh,BO,Ag hkl,Dw,Option.some.injEq]at hu;subst hu;exact⟨b,off,l[k],rfl,hbw,q0,Air hkl⟩
theorem lZ(h:Ix w x d p L s F){items:List (List UInt8×UInt64)}{met:List Int}(hs:EH s=some (items,met)){l:List Int}(ho:Ht s items (FX met)=some l)(hl:l.length<=100000)(hd:Nk (FX l)=true)(hall:FX l=(Jo s).map CE)(hup:(Jo s).Pairwise (·<·)):
 Calls Tryz.prog 67 #[.pointer (some ⟨d,0,none⟩),.pointer (some ⟨p,0,none⟩),.pointer (some ⟨x,0,none⟩)] w fun e w'=>e= .returned (.int .i64 0)/\Below w.heap.size w w':=by
 have HR:=Aa (mendReach h hs ho hl hd);have hlen:l.length=(Jo s).length:=by rw [<-MW l,hall,CZ]
 rw [hlen,hall]at HR;rw [hlen]at hl;have HX:=Aa h;have HU:=Aa hup;clear h hs ho hd hall hup hlen;obtain⟨n,hn⟩:∃n,n=(Jo s).length:=⟨_,rfl⟩;go_enter Tryz.func67,Tryz.ntmps67
 go_wp2_with fail
 refine HR.out.mono ?_;rintro e w2⟨v2,rfl,ho2,hb2⟩;obtain⟨A2,c2,rfl,hc2,hr2⟩:=Ea ho2;have HB2:=Aa hb2;have HR2:=Aa hr2;have HA:=Aa (show Calls Tryz.prog 22 #[.pointer (some ⟨p,0,none⟩)] w2 fun e w'=>∃v,e= .returned v/\w'.ownsRow w2.heap.size 3 1 v (Jo s).length (Zh (Jo s))/\Below w2.heap.size w2 w' from by
  obtain⟨tb,hb,n,cT,cH,own,hr, -⟩:=(HX.out.below hb2).sys;exact Yh hr.at)
 clear HR ho2 hb2 hr2 hc2
 go_wp2_with fail
 refine HA.out.mono ?_;rintro e w3⟨v3,rfl,ho3,hb3⟩;obtain⟨A3,c3,rfl,hc3,hr3⟩:=Ea ho3;have HB3:=Aa (HB2.out.trans (hb3.mono HB2.out.size));have Aop:=Aa (HR2.out.below hb3);have HR3:=Aa hr3;clear HA ho3 hb3 hr3 hc3 HR2;rw [<-hn]at hl⊢;have HN:=Aa hn;clear hn
 go_wp2_with fail
 go_loopw [26](fun i wq=>∃k:Nat,k<=n/\i= .int .i64 (k:Nat)/\wq=w3)(fun i _=>n- (intOf i).toNat)
 case atStart=>exact⟨0,BH _,rfl,rfl⟩
 case round=>
  obtain⟨k,hk,rfl,rfl⟩:=hrel;by_cases hlt:k<n
  ·obtain⟨b,off,y,rfl,hbw,q0,hy⟩:=free_at HN.out (by have:=HR3.out;rwa [I7]at this) hlt;have HSr:=Aa (lY A2 (Jo s).length c2 ((Jo s).map CE) y wr (by have:=HN.out;omega) (by simp) (by have:=Aop.out;rwa [I7]at this) (Agi HU.out));rw [hy,<-HN.out]at HSr;clear hy;generalize WV ((Jo s).map CE) ((y:Nat):Int)=z at HSr;have hx1:(k:Int)<(n:Int):=by omega
   have hx2:decide ((k:Int)<(n:Int))=true:=decide_eq_true hx1;have hx5:decide (k<n)=true:=decide_eq_true hlt;have hwk:IntKind.i64.wrap ((k:Int)+1)=(k:Int)+1:=IntWalk.i64_in _ (by omega)
   go_wp2_with fail
   refine HSr.out.mono ?_;rintro e w5⟨rfl,rfl⟩
   go_wp2_with fail
   go_roundw
   case rel=>exact⟨k+1,by omega,by go_num,by first| rfl| trivial⟩
   case measure=>simp [intOf];omega
  ·have hx2:decide ((k:Int)<(n:Int))=false:=decide_eq_false (by omega);have hx5:decide (k<n)=false:=decide_eq_false hlt
   go_wp2_with fail
   go_ret;exact⟨rfl,HB3.out⟩
end
end Go.Proofs.YtjcppneoncpdbaaGreatDoor
