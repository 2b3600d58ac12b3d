import Derived.Sort.OwnSortedInts
import Derived.Test.YtkimaejoeapmnaaGreatDoorG40
set_option maxHeartbeats 32000000
set_option maxRecDepth 100000
open List renaming map_append->Dq,length_mergeSort->rQ,getElem?_eq_some_iff->Cb,length_append->AQ,length_take->DC,take_length->MG,getElem?_eq_getElem->Af,getElem?_map->BZ,getElem_of_mem->CU,any_eq_false->Px,any_eq_true->Yp,getElem_mem->BM,pairwise_iff_getElem->JR,mem_append->AL,mem_singleton->BC
open Array renaming getElem?_eq_some_iff->AB
open Go.Lib renaming hid->Aa
open Nat renaming le_refl->Ad,zero_le->BK,lt_or_ge->Ih
open Option renaming map_some->DK
namespace Go.Proofs.YtkimaejoeapmnaaGreatDoor
open Go.RowKit Go.Maps Go.Shelf
def SY(l:List Int):List Value:=l.map (Value.int .i64)
theorem Aj6(a b:List Int):SY (a++b)=SY a++SY b:=Dq
theorem JZ(l:List Int):(Dc l).length=l.length:=rQ _
theorem Aj7(l:List Int):∀u∈SY l,u.oneCell'=true:=fun u hu=>by
 obtain⟨a,_,rfl⟩:=List.mem_map.1 hu;rfl
theorem Ag2{w:World}{base:Nat}{v:Value}(ss:List Int)(h:w.ownsRow base 3 1 v ss.length (SY ss))(hb:base<=w.heap.size)(hs:ss.length<=1000000000):
 Calls Tryz.prog 41 #[v] w fun e w'=>e= .returned (.tuple #[])/\w'.ownsRow base 3 1 v ss.length (SY (Dc ss))/\Below base w w':=by
 rcases h.2 with⟨rfl,h2⟩| ⟨g,cap,cur,rfl,hB,hg,hnc,hcm,hcs,ht⟩
 ·have he:ss=[]:=List.eq_nil_of_length_eq_zero h2;subst he;refine(AnyM.slices_Sort_int_none Tryz.sortA none 0 w).mono ?_;rintro e w'⟨rfl,rfl⟩;exact⟨rfl,by simpa [Dc,SY]using h,Below.refl _ _⟩
 ·rw [Nat.mul_one]at ht;refine(AnyM.slices_Sort_int Tryz.sortA g 0 cap ss w (holds_of_blockI hg ht) (AB.1 hg).1 (by omega)).mono ?_;rintro e w'⟨rfl,n,os,rfl⟩;refine⟨rfl,ownsRow_sortedI (rQ _) hB hg hnc hcm hcs,?_⟩;exact(Below.refl _ _).grown (grownBy_sortedI _) hb (fun k hk=>by injection hk with hk;omega)
theorem Ag3{w:World}{A:Option Addr}{c:Nat}(l:List Int)(hr:Rd w A (l.length*1) (SY l))(hs:l.length<=100000):
 Calls Tryz.prog 39 #[.slice A l.length c] w fun e w'=>∃u,e= .returned u/\w'.ownsRow w.heap.size 3 1 u l.length (SY l)/\Below w.heap.size w w':=by
 have q1:=fun W=>Lib.run_eql_slice_nil (P:=Tryz.prog) W 38 3 A l.length c 0 0 Tryz.underlying38
 cases A with
 | none=>
   have hs0:l=[]:=by
    by_cases e:l=[]
    ·exact e
    ·obtain⟨b,off,e2,_⟩:=hr.2 (by have:=List.length_pos_iff.2 e;omega);cases e2
   subst hs0;simp only [List.length_nil]at q1;clear hr;go_enter Tryz.func39,Tryz.ntmps39
   go_wp2_with fail
   go_ret;exact⟨_,rfl,⟨by simp [SY],.inl ⟨rfl,rfl⟩⟩,Below.refl _ _⟩
 | some a=>
   have HR:=Aa hr;have HC:=Aa hs;have hb0:Below w.heap.size w (w.alloc (.cells #[] 3)):=(Below.refl _ _).alloc (Ad _) _;have HB0:=Aa hb0;have HO:Hid ((w.alloc (.cells #[] 3)).ownsRow w.heap.size 3 1 (.slice (some ⟨w.heap.size,0,none⟩) 0 0) 0 []):=Aa ⟨rfl,.inr ⟨w.heap.size,0,#[],rfl,Ad _,heap_alloc_new _ _,Ad _,by decide,rfl,rfl⟩⟩;clear hb0 hr hs;go_enter Tryz.func39,Tryz.ntmps39
   go_wp2_with(at_builtin;refine I4 rfl (.tmp 5) (.tmp 6) 38 rfl Tryz.VP (by decide) w.heap.size (.slice (some ⟨w.heap.size,0,none⟩) 0 0) 0 [] rfl HO.out (some a) l.length c (SY l) rfl (Rd.below HR.out HB0.out) (Aj7 l) (by have:=HC.out;omega) (by decide) (by simp) ?_;intro v' w' hO hB hK)
   go_ret;exact⟨_,rfl,by simpa using hO,HB0.out.trans hB⟩
end Go.Proofs.YtkimaejoeapmnaaGreatDoor
namespace Go.Proofs.YtkimaejoeapmnaaGreatDoor
open Go.RowKit
theorem xI{w:World}{base n k c:Nat}{A:Option Addr}{e:TypeId}{xs:List Value}(h:w.ownsRow base e k (.slice A n c) n xs):∀a,A=some a->base<=a.block/\a.block<w.heap.size:=fun a ea=>by
 rcases h.2 with⟨h1,_⟩| ⟨g,cap,cur,h1,h2,h3,_⟩
 ·simp only [Value.slice.injEq]at h1;rw [h1.1]at ea;cases ea
 ·simp only [Value.slice.injEq]at h1;rw [h1.1]at ea;injection ea with ea
  rw [<-ea];exact⟨h2,(AB.1 h3).1⟩
theorem Aj8{w:World}{base n k:Nat}{v:Value}{e:TypeId}{xs:List Value}(h:w.ownsRow base e k v n xs):∀g,v.ownBlock=some g->base<=g/\g<w.heap.size:=fun g eg=>by
 rcases h.2 with⟨h1,_⟩| ⟨g',cap,cur,h1,h2,h3,_⟩
 ·rw [h1]at eg;cases eg
 ·rw [h1]at eg;injection eg with eg
  rw [<-eg];exact⟨h2,(AB.1 h3).1⟩
theorem Rd.kept{w w':World}{A:Option Addr}{n:Nat}{xs:List Value}{r:Option Nat}(h:Rd w A n xs)(k:Kept w w' r)(hr:∀a,A=some a->r≠some a.block):Rd w' A n xs:=by
 refine⟨h.1,fun hn=> ?_⟩;obtain⟨b,off,e,hb,hc⟩:=h.2 hn;exact⟨b,off,e,Nat.lt_of_lt_of_le hb k.1,fun j hj=>(World.cell?_of_block (w:=w) (k.2 b hb (fun e2=>hr _ e e2.symm))).trans (hc j hj)⟩
theorem Ac9{l:List Int}(h:Gv l=true){i:Nat}{a b:Int}(ha:l[i]? =some a)(hb:l[i+1]? =some b):a≠b:=by
 obtain⟨h1,e1⟩:=Cb.1 ha;obtain⟨h2,e2⟩:=Cb.1 hb;have:=cu h i h2
 rwa [e1,e2]at this
theorem Ag4{w:World}{A:Option Addr}{l:List (List UInt8×UInt64)}(h:Rd w A (l.length*2) ((l.map itV).flatten))(k:Nat)(hk:k<l.length):∃b off,A=some ⟨b,off,none⟩/\b<w.heap.size/\w.cell? ⟨b,off+k*2,none⟩=some (.string ⟨l[k].1.toArray⟩)/\w.cell? ⟨b,off+k*2+1,none⟩=some (.int .u64 (l[k].2.toNat:Int)):=by
 obtain⟨b,off,e,hb,hc⟩:=h.2 (by omega);have key:∀i,i<2->w.cell? ⟨b,off+k*2+i,none⟩=(itV l[k])[i]? :=fun i hi=>by
  rw [Nat.add_assoc,hc (k*2+i) (by omega)];exact flat_get itV 2 (fun _=>rfl) l k i hk hi
 exact⟨b,off,e,hb,key 0 (by decide),key 1 (by decide)⟩
section
variable{w w':World}{x d p L:Nat}{s:St}{F:Nat->Prop}
def fU(s:St)(w:World)(e:Ending)(w':World):Prop:=
 Below w.heap.size w w'/\match Nw s with
  | none=>e= .returned (.tuple #[.slice none 0 0,.int .i64 5])
  | some r=>∃v,e= .returned (.tuple #[v,.int .i64 0])/\w'.ownsRow w.heap.size 3 1 v r.length (SY r)
theorem ZX(h:Ix w x d p L s F){items:List (List UInt8×UInt64)}{met:List Int}(hs:DU s=some (items,met))(hfew:∀k acc,k<=items.length->Fq s (items.take k) (Dc met)=some acc->acc.length<=100000):
 Calls Tryz.prog 10 #[Aw d,Aw p,Aw x] w (fU s w):=by
 have hrp:Nw s=match Fq s items (Dc met)with| none=>none| some l=>if Gv (Dc l)=true then some (Dc l)else none:=by unfold Nw;rw [hs];rfl
 have hL0:=h.sys.pos.1;have t0:(((L*64:Nat):Int)==0)=false:=by rw [beq_eq_false_iff_ne];omega
 have hsz:=h.sys.size;generalize L*64=sz at hsz t0;have ax:=Aa hsz;have HN:=Aa (RZ h);have HX:=Aa h;have HS:=Aa hs;have HL:=Aa hfew;have HRp:=Aa hrp;clear hsz h hs hfew hrp hL0;go_enter Tryz.func10,Tryz.ntmps10
 go_wp2_with fail
 refine ax.out.mono ?_;rintro e w0⟨rfl,rfl⟩;clear ax
 go_wp2_with fail
 refine HN.out.mono ?_;rintro e w1⟨hb1,hp1⟩;rw [HS.out]at hp1;obtain⟨v1,rfl,ho1,hm1⟩:=hp1;obtain⟨A1,c1,rfl,hc1,hr1⟩:=DN ho1;rw [show(Ags met).map (Value.int .i64)=SY (Dc met)from rfl]at hr1;have HB1:=Aa hb1;have HR1:=Aa hr1;have Ag5:=Aa (fH (HX.out.below hb1));clear HN ho1 hb1 hr1 hc1
 go_wp2_with fail
 refine Ag5.out.mono ?_;rintro e w2⟨hb2,hp2⟩;rw [HS.out]at hp2;obtain⟨v2,rfl,ho2,hm2⟩:=hp2;obtain⟨A2,c2,rfl,hc2,hr2⟩:=DN ho2;have HB2:=Aa (HB1.out.trans (hb2.mono HB1.out.size));have HR2:=Aa hr2;have Ant:=Rd.below HR1.out hb2;have HLm:Hid ((Dc met).length<=100000):=Aa (HL.out 0 _ (BK _) rfl);rw [show met.length=(Dc met).length from(JZ met).symm]at Ant;rw [show met.length=(Dc met).length from(JZ met).symm];have QD:=Aa (Ag3 (c:=c1) (Dc met) Ant HLm.out);clear Ag5 ho2 hb2 hr2 hc2 Ant HR1
 go_wp2_with fail
 refine QD.out.mono ?_;rintro e w3⟨v3,rfl,ho3,hb3⟩;have HB3:=Aa hb3;have iZ:=Aa ho3;clear QD hb3 ho3
 go_wp2_with fail
 go_loopw [11,50](fun u i wr=>∃(k:Nat)(acc:List Int),k<=items.length/\i= .int .i64 (k:Nat)/\Fq s (items.take k) (Dc met)=some acc/\acc.length<=100000/\wr.ownsRow w2.heap.size 3 1 u acc.length (SY acc)/\Below w2.heap.size w2 wr)(fun _ i _=>items.length- (intOf i).toNat)
 case atStart=>exact⟨0,Dc met,BK _,rfl,rfl,HLm.out,iZ.out,HB3.out⟩
 case round=>
  obtain⟨k,acc,hk,rfl,hac,hal,hown,hb⟩:=hrel;have HOr:=Aa hown;have Ob:=Aa hb;have HAc:=Aa hac;clear hown hb iZ HB3 hac;by_cases hlt:k<items.length
  ·obtain⟨b,off,rfl,hbw,q0,q1⟩:=Ag4 (Rd.below HR2.out Ob.out) k hlt;obtain⟨hx1,hx2,hx5⟩:=aJ hlt;have hwk:=lh k (by omega);have ay:=Aa (tY hlt HAc.out);have HL1:=Aa (fun acc=>HL.out (k+1) acc hlt);obtain⟨⟨ky,vl⟩,hit⟩:∃it,it=items[k]:=⟨_,rfl⟩;rw [<-hit]at q0 q1 ay;simp only at q0 q1 ay;obtain⟨w4,hw4,hb4, -⟩:=FB wr 104 [.string ⟨ky.toArray⟩,.int .u64 (vl.toNat:Int)];have HB4:=Aa (Ob.out.trans (hb4.mono Ob.out.size));have ak:=Aa (Lh HOr.out hb4);have Asa:=HB2.out.trans (HB4.out.mono HB2.out.size);have VN:=Aa (dW (HX.out.below Asa).sys vl);have aA:=Aa hw4;clear hit hw4 hb4 Asa HOr Ob
   go_wp2_with fail
   rw [<-aA.out];refine VN.out.mono ?_;rintro e w5⟨hb5,hp5⟩;cases hm:II s vl with
   | none=>
     rw [hm]at hp5;have SE:Hid (Nw s=none):=Aa (by
      have h1:=ay.out;rw [hm]at h1;rw [HRp.out,tZ hlt h1])
     have Jy:=Aa (HB2.out.trans ((HB4.out.trans (hb5.mono HB4.out.size)).mono HB2.out.size));subst hp5;clear VN hb5 ak HB4 ay
     go_wp2_with fail
     go_ret2;refine⟨Jy.out,?_⟩;rw [SE.out];rfl
   | some m=>
     rw [hm]at hp5 ay;obtain⟨qO,v5,rfl,V8⟩:=hp5;have pW:Hid ((acc++m.map (·.off)).length<=100000):=Aa (HL1.out _ ay.out);clear hm;have hfew:=qO.few;have HOb:=Aj8 ak.out;obtain⟨A5,c5,rfl,hc5,uk⟩:=jk V8;have hap:∀a,A5=some a->a.block<w5.heap.size/\u11.ownBlock≠some a.block:=fun a ea=>by
      obtain⟨h1,h2⟩:=xI V8 a ea;exact⟨h2,fun e=>by have:=(HOb _ e).2;omega⟩
     have HAp:=Aa hap;have rV:=Aa uk;have Jy:=Aa (HB4.out.trans (hb5.mono HB4.out.size));have cO:=Aa (Lh ak.out hb5);clear VN V8 hb5 uk hap HOb qO ak HB4 hc5
     go_wp2_with fail
     go_loopw [11,67](fun u i wr=>∃j:Nat,j<=m.length/\i= .int .i64 (j:Nat)/\wr.ownsRow w2.heap.size 3 1 u (acc++(m.take j).map (·.off)).length (SY (acc++(m.take j).map (·.off)))/\Below w2.heap.size w2 wr/\LkR wr A5 m/\∀a,A5=some a->a.block<wr.heap.size/\u.ownBlock≠some a.block)(fun _ i _=>m.length- (intOf i).toNat)
     case atStart=>exact⟨0,BK _,rfl,by simpa using cO.out,Jy.out,rV.out,HAp.out⟩
     case round=>
      obtain⟨j,hj,rfl,hown,hb,hrd,hap⟩:=hrel;have bz:=Aa hown;have KO:=Aa hb;have rZ:=Aa hrd;have Anu:=Aa hap;clear hown hb hrd hap HAp cO Jy rV;by_cases hjl:j<m.length
      ·obtain⟨hy1,hy2,hy5⟩:=aJ hjl;have hwj:=lh j (by omega);obtain⟨b,off,rfl,hbw,z0,z1,z2,z3,z4⟩:=rZ.out.at j hjl;have HTj:Hid (acc++(m.take (j+1)).map (·.off)=acc++(m.take j).map (·.off)++[m[j].off]):=Aa (by
        rw [List.take_succ_eq_append_getElem hjl,Dq,List.append_assoc];rfl)
       have hml:(acc++(m.take j).map (·.off)).length<=100000:=by
        have:=pW.out;simp only [AQ,List.length_map,DC]at this⊢;omega
       generalize m[j]=lk at*;obtain⟨lo,ls,ln,lg,lt⟩:=lk;simp only at z0 z1 z2 z3 z4 HTj;generalize(acc++(m.take j).map (·.off))=Q at*;obtain⟨w7,hw7,hb7, -⟩:=FB wr 111 [.int .i64 lo,.int .u64 (ls.toNat:Int),.int .u64 (ln.toNat:Int),.bool lg,.string lt];have aY:=Aa (KO.out.trans (hb7.mono KO.out.size));have HO7:=Aa (Lh bz.out hb7);have HR7:=Aa (rZ.out.below hb7);have hne:=(Anu.out _ rfl).2;have hbl:=(Anu.out _ rfl).1;simp only at hne hbl;have HA7:Hid (b<w7.heap.size):=Aa (by have:=hb7.size;omega);have HNe:=Aa hne;rw [hw7]at HO7 aY;have HW7:=Aa hw7;clear hw7 hb7 hne hbl bz KO rZ Anu
       go_wp2_with(at_builtin;refine Eh rfl (.tmp 71) (.tmp 74) 38 rfl Tryz.VP (wr.alloc (.cells #[.int .i64 lo,.int .u64 (ls.toNat:Int),.int .u64 (ln.toNat:Int),.bool lg,.string lt] 111)) w2.heap.size u11 Q.length (SY Q) [.int .i64 lo] rfl (by exact HO7.out) rfl _ 1 rfl (by simp) rfl (by decide) (by intro u hu;simp at hu;subst hu;rfl) (by omega) (by decide) (by exact aY.out.size) ?_;intro g8 c8 w8 hO8 Yc hK8 hg8)
       have HO8:=Aa hO8;have az:=Aa (aY.out.trans Yc);rw [<-HW7.out]at hK8 hg8;have HR8:=Aa (Rd.kept HR7.out hK8 (fun a ea=>by injection ea with ea;rw [<-ea];exact HNe.out));have HA8:Hid (b<w8.heap.size/\some g8≠some b):=Aa (by
        refine⟨by have:=hK8.1;have:=HA7.out;omega,fun e=> ?_⟩;injection e with e
        rcases hg8 with h| h
        ·exact HNe.out (by rw [h,e])
        ·have:=HA7.out;omega)
       clear hO8 Yc hK8 hg8 HR7
       go_wp2_with fail
       go_roundw
       case rel=>exact⟨j+1,by omega,by go_num,by rw [HTj.out,AQ,Aj6];exact HO8.out,az.out,HR8.out,fun a ea=>by injection ea with ea;subst ea;exact HA8.out⟩
       case measure=>simp [intOf];omega
      ·obtain⟨hy2,hy5⟩:=yj hjl;have hjn:j=m.length:=by omega
       subst hjn;have HO7:Hid (wr.ownsRow w2.heap.size 3 1 u11 (acc++m.map (·.off)).length (SY (acc++m.map (·.off)))):=Aa (by have:=bz.out;rwa [MG]at this);clear bz
       go_wp2_with fail
       go_roundw
       case rel=>exact⟨k+1,_,by omega,by go_num,ay.out,pW.out,HO7.out,KO.out⟩
       case measure=>simp [intOf];omega
  ·obtain⟨hx2,hx5⟩:=yj hlt;have hkn:k=items.length:=by omega
   subst hkn;obtain⟨l,hla⟩:∃l,l=acc:=⟨_,rfl⟩;rw [<-hla]at HOr hal HAc;have HRl:Hid (Nw s=if Gv (Dc l)=true then some (Dc l)else none):=Aa (by
    have h1:=HAc.out;rw [MG]at h1;rw [HRp.out,h1])
   have HSo:=Aa (Ag2 l HOr.out Ob.out.size (by omega));clear HAc hla HRp HL
   go_wp2_with fail
   refine HSo.out.mono ?_;rintro e w6⟨rfl,kW,hb6⟩;obtain⟨A6,c6,rfl,hc6,XD⟩:=DN kW;have bz:=Aa kW;have KO:=Aa (HB2.out.trans ((Ob.out.trans hb6).mono HB2.out.size));have rZ:=Aa XD;have HSl:=Aa (JZ l);have UY:=Aa (fJ kW HB2.out.size);clear HSo kW hb6 XD HOr Ob hc6
   go_wp2_with fail
   go_loopw [18](fun i wr=>∃j:Nat,1<=j/\(j<=l.length\/j=1)/\i= .int .i64 (j:Nat)/\Below w6.heap.size w6 wr/\ik (Dc l) j)(fun i _=>l.length- (intOf i).toNat)
   case atStart=>exact⟨1,Ad _,.inr rfl,rfl,Below.refl _ _,fun i h1 h2=>absurd h2 (by omega)⟩
   case round=>
    obtain⟨j,hj1,hj2,rfl,hbq,hto⟩:=hrel;have HBq:=Aa hbq;have HTo:=Aa hto;clear hbq hto;by_cases hjl:j<l.length
    ·obtain⟨hy1,hy2,hy5⟩:=aJ hjl;have hwj:=lh j (by omega);have hwm:IntKind.i64.wrap ((j:Int) -1)=((j-1:Nat):Int):=by rw [IntWalk.i64_in _ (by omega)];omega
     obtain⟨b,off,rfl,hbw,hcc⟩:=(Rd.below rZ.out HBq.out).2 (by omega);have z1:=hcc j (by omega);have z2:=hcc (j-1) (by omega);obtain⟨za,hza⟩:∃za,(Dc l)[j]? =some za:=⟨_,Af (by rw [HSl.out];exact hjl)⟩;obtain⟨zb,hzb⟩:∃zb,(Dc l)[j-1]? =some zb:=⟨_,Af (by rw [HSl.out];omega)⟩;rw [SY,BZ,hza]at z1;rw [SY,BZ,hzb]at z2;simp only [DK]at z1 z2;have hm1:j-1<l.length:=by omega
     have hm2:decide (((j-1:Nat):Int)<(l.length:Int))=true:=decide_eq_true (by omega);have hm3:decide ((j-1:Nat)<l.length)=true:=decide_eq_true hm1;have HZa:Hid ((Dc l)[j-1+1]? =some za):=Aa (by rw [show j-1+1=j by omega];exact hza);have HZb:=Aa hzb;have HTs:Hid (za≠zb->ik (Dc l) (j+1)):=Aa (lJ hj1 HTo.out hza hzb);clear hcc hza hzb;generalize j-1=jm at*;cases q1:(za==zb)with
     | true=>
       have SE:Hid (Gv (Dc l)=false):=Aa (by
        cases ho:Gv (Dc l)with
        | false=>rfl
        | true=>exact absurd (beq_iff_eq.1 q1).symm (Ac9 ho HZb.out HZa.out))
       clear HTs HZa HZb HTo
       go_wp2_with fail
       go_quiet(fail)
       go_wp2_with fail
       go_ret2;refine⟨KO.out.trans ((HBq.out.trans ((Dr.one _ _).below _)).mono KO.out.size),?_⟩;rw [HRl.out,SE.out,if_neg Bool.false_ne_true];rfl
     | false=>
       have HNe:Hid (za≠zb):=Aa (beq_eq_false_iff_ne.1 q1)
       go_wp2_with fail
       go_quiet(fail)
       go_wp2_with fail
       go_roundw
       case rel=>exact⟨j+1,by omega,.inl (by omega),by go_num,HBq.out.trans ((Dr.one _ _).below _),HTs.out HNe.out⟩
       case measure=>simp [intOf];omega
    ·obtain⟨hy2,hy5⟩:=yj hjl;have HOn:Hid (Gv (Dc l)=true):=Aa (yw (fun i h1 h2=>HTo.out i h1 (by have:=HSl.out;omega) h2))
     go_wp2_with fail
     go_ret2;refine⟨KO.out.trans (HBq.out.mono KO.out.size),?_⟩;rw [HRl.out,HOn.out,if_pos rfl];have:wr.ownsRow w.heap.size 3 1 (.slice A6 l.length c6) (Dc l).length (SY (Dc l)):=by rw [HSl.out];exact Lh UY.out HBq.out
     exact⟨_,rfl,this⟩
theorem SL(h:Ix w x d p L s F){items:List (List UInt8×UInt64)}{met:List Int}(hs:DU s=some (items,met)){l:List Int}(ho:Fq s items (Dc met)=some l)(hl:l.length<=100000)(hd:Gv (Dc l)=true):
 Calls Tryz.prog 10 #[Aw d,Aw p,Aw x] w fun e w'=>∃v,e= .returned (.tuple #[v,.int .i64 0])/\w'.ownsRow w.heap.size 3 1 v l.length (SY (Dc l))/\Below w.heap.size w w':=by
 refine(ZX h hs (fun k acc hk ha=> ?_)).mono ?_
 ·obtain⟨a,h1,h2⟩:=YA ho k hk;rw [h1]at ha;injection ha with ha
  have:=bZ h2;rw [ha]at this;omega
 ·rintro e w'⟨hb,hp⟩;have hr:Nw s=some (Dc l):=by unfold Nw;rw [hs];simp only [ho,hd,if_true]
  rw [hr]at hp;obtain⟨v,e1,e2⟩:=hp;rw [JZ]at e2;exact⟨v,e1,e2,hb⟩
end
section
variable{w w':World}{x d p L:Nat}{s:St}{F:Nat->Prop}
theorem fV{ws:Nat->UInt64}{own Z:Nat->Prop}{G:St->Prop}{sh:Sh}(hL0:0<L)(hL:L<=1024)(hsh:shapeOf L=some sh)(h:Dev w d L ws M0 (fun _=>0) own)(hT:Tabs w)(g1:¬own 0)(g2:¬own 1)
 (h8:wordsAt ws 0 8=wordsOf sh)(hall:∀i,i<sh.BI->ES (ws (sh.table/8+i)).toNat=true)(hst:s={sh:=sh,ws:=ws,tk:=wordsAt ws (sh.table/8) sh.BI,hd:=List.replicate sh.BI 0}){r:List (List UInt8×UInt64)×List Int}(hs:DU s=some r)(hsl:(ws 8).toNat<=60000)
 (hR:∀(W:World)(p x:Nat)(F:Nat->Prop),Ix W x d p L s F->Calls Tryz.prog 10 #[Aw d,Aw p,Aw x] W fun e w'=>(∃A n c,e= .returned (.tuple #[.slice A n c,.int .i64 0]))/\Below W.heap.size W w')
 (hB:∀(W:World)(p x:Nat)(F:Nat->Prop),Ix W x d p L s F->w.heap.size+1<=W.heap.size->(∀b,F b->own b\/w.heap.size+1<=b)->Calls Tryz.prog 30 #[Aw d,Aw p,Aw x,.int .u64 ((ws 8).toNat:Int)] W fun e W1=>e= .returned (.int .i64 0)/\
  ∃s1 F1,Ix W1 x d p L s1 F1/\AO F F1 W W1/\Touch (fun b=>Z b\/w.heap.size+1<=b) W W1/\Calls Tryz.prog 31 #[Aw d,Aw p,Aw x] W1 fun e W2=>e= .returned (.int .i64 0)/\
   ∃s2 F2,Ix W2 x d p L s2 F2/\AO F1 F2 W1 W2/\Touch (fun b=>Z b\/w.heap.size+1<=b) W1 W2/\G s2):
 Calls Tryz.prog 8 #[Aw d] w fun e w'=>∃p x F s',e= .returned (.tuple #[.agg #[Aw p,Aw x,.int .u64 ((ws 8).toNat:Int)],.int .i64 0])/\
  Ix w' x d p L s' F/\G s'/\Touch Z w w'/\(∀b,F b->own b\/w.heap.size<=b)/\w.heap.size<=x:=by
 have jB:=Aa hT.lt;obtain⟨w1,hw1,hb1,hB1⟩:=FB w 30 [.pointer none,.pointer none,.int .u64 0];have uX:=Aa hB1;have HO:=Aa (dP hL0 hL hsh (by decide) (h.below hb1) (hT.below hb1) g1 g2 h8 hall);rw [<-hst]at HO;have HB1:=Aa hb1;have HW1:=Aa hw1;have hs1:w1.heap.size=w.heap.size+1:=by rw [hw1];simp
 have YU:Hid (∀b,own b->b<w.heap.size):=Aa (fun b hb=>h.lt b hb);have h88:s.ws 8=ws 8:=by rw [hst]
 have H88:=Aa h88;have HS:=Aa hs;have HRc:=Aa hR;have Tt:=Aa hB;have t6:decide ((60000:Int)<((ws 8).toNat:Int))=false:=decide_eq_false (by omega);have t7:decide (60000<(ws 8).toNat)=false:=decide_eq_false (by omega);have HLe:Hid (8<8*L):=Aa (by have:=(FI hsh).fits;have:=(FI hsh).MK;have:=(FI hsh).BI;omega);clear h hT g1 g2 h8 hall hst hs hsl hR hB hw1 hb1 hB1 h88 hsh;go_enter Tryz.func8,Tryz.ntmps8
 go_wp2_with fail
 rw [<-HW1.out];refine HO.out.mono ?_;rintro e w2⟨p,F,rfl,hsy2,hb2,hF2⟩;have HB2:=Aa hb2;have HOx:=Aa (Um hsy2);have HF2:Hid (∀b,F b->own b\/w.heap.size+1<=b):=Aa (fun b hb=>(hF2 b hb).imp id (fun h=>by omega));clear HO hsy2 hb2 hF2
 go_wp2_with fail
 refine HOx.out.mono ?_;rintro e w3⟨hb3,hp3⟩;rw [HS.out]at hp3;obtain⟨x,rfl,hx3,hxs⟩:=hp3;have HB3:=Aa (HB2.out.trans (hb3.mono HB2.out.size));have HX3:=Aa hx3;have HXs:=Aa hxs;have HR3:=Aa (HRc.out _ _ _ _ hx3);clear HOx hb3 hx3 hxs HRc
 go_wp2_with fail
 refine HR3.out.mono ?_;rintro e w4⟨⟨A4,n4,c4,rfl⟩,hb4⟩;have HB4:=Aa (HB3.out.trans (hb4.mono HB3.out.size));have hx4:=HX3.out.below hb4;have HLd:=Aa (hx4.sys.load 8 HLe.out);rw [H88.out,show((8*8:Nat):Int)=64 from rfl]at HLd;have Zi:=Aa (Tt.out _ _ _ _ hx4 (by have:=HB4.out.size;omega) HF2.out);clear HR3 hb4 hx4 Tt
 go_wp2_with fail
 refine HLd.out.mono ?_;rintro e w5⟨rfl,rfl⟩;clear HLd
 go_wp2_with fail
 refine Zi.out.mono ?_;rintro e w6⟨rfl,s6,F6, -,Vu,ht6,hfr⟩;have TY:=Aa Vu;have HT6:=Aa ht6;have Asb:=Aa hfr;clear Zi Vu ht6 hfr
 go_wp2_with fail
 refine Asb.out.mono ?_;rintro e w7⟨rfl,s7,F7,hx7,wC,zl,hg7⟩;have zq:=Aa hx7;have HG7:=Aa hg7;have Ya:=Aa (TY.out.trans wC);have HNF:Hid (¬F w.heap.size):=Aa (fun hb=>(HF2.out _ hb).elim (fun h=>by have:=YU.out _ h;omega) (fun h=>by omega));have HT7:Hid (Touch Z w w7):=Aa (((Touch.of_below (HB1.out.trans (HB4.out.mono HB1.out.size))).trans HT6.out (fun b hb=>hb.imp id (fun h=>by omega))).trans zl (fun b hb=>hb.imp id (fun h=>by omega)));have k7:CG w7 w.heap.size 30 [.pointer none,.pointer none,.int .u64 0]:=by
  have h1:=uX.out.below HB4.out uX.out.lt;exact(Ya.out.touch.block _ h1.lt HNF.out).trans h1
 have f0:=k7.frozen 0;have f1:=k7.frozen 1;have f2:=k7.frozen 2;obtain⟨e0,e1,e2⟩:=k7.p3;have HK7:=Aa k7;clear Asb hx7 wC zl hg7 k7 TY HT6
 go_wp2_with fail
 obtain⟨W,hW⟩:∃W,W=((w7.setCell ⟨w.heap.size,0,none⟩ (Aw p)).setCell ⟨w.heap.size,1,none⟩ (Aw x)).setCell ⟨w.heap.size,2,none⟩ (.int .u64 ((ws 8).toNat:Int)):=⟨_,rfl⟩;rw [<-hW];have tg:Touch (fun k=>k=w.heap.size) w7 W:=by rw [hW];exact(((Touch.refl (fun k=>k=w.heap.size) w7).setCell (p:=⟨w.heap.size,0,none⟩) (.inl rfl) _).setCell (p:=⟨w.heap.size,1,none⟩) (.inl rfl) _).setCell (p:=⟨w.heap.size,2,none⟩) (.inl rfl) _
 have bg:CG W w.heap.size 30 [Aw p,Aw x,.int .u64 ((ws 8).toNat:Int)]:=by rw [hW];exact((HK7.out.AZ 0 _).AZ 1 _).AZ 2 _
 obtain⟨y0,y1,y2⟩:=bg.p3;refine bodyPost_ret (v:= .tuple #[.agg #[Aw p,Aw x,.int .u64 ((ws 8).toNat:Int)],.int .i64 0]) (by simp [results,Tryz.results8,go_sem,y0,y1,y2]) rfl ?_;have hF7:∀b,F7 b->own b\/w.heap.size+1<=b:=fun b hb=>(Ya.out.own b hb).elim (HF2.out b) (fun h=> .inr (by have:=HB4.out.size;omega))
 have hFn:∀b,F7 b->¬b=w.heap.size:=fun b hb e=>(hF7 b hb).elim (fun h=>by have:=YU.out b h;omega) (fun h=>by omega)
 have hxs:w.heap.size<x:=by
  have:=HXs.out;have:=HB2.out.size;omega
 exact⟨p,x,F7,s7,rfl,⟨zq.out.sys.keep tg hFn (fun e=>by have:=jB.out;omega) (fun e=>by have:=jB.out;omega),zq.out.box.touch tg (by omega),zq.out.out⟩,HG7.out,HT7.out.trans tg (fun b hb=> .inr (Nat.le_of_eq hb.symm)),fun b hb=>(hF7 b hb).imp id (fun h=>by omega),by omega⟩
end
def Yn(l:List Int)(x:Int):Nat:=l.countP fun y=>decide (y<x)
theorem qP(l:List Int)(x:Int)(i:Nat)(hi:i<=l.length)(h1:∀t(h:t<l.length),t<i->l[t]<x)(h2:∀t(h:t<l.length),i<=t->x<=l[t]):Yn l x=i:=by
 unfold Yn
 conv=>lhs;rw [<-List.take_append_drop i l]
 rw [List.countP_append];have e1:(l.take i).countP (fun y=>decide (y<x))=i:=by
  have:(l.take i).length=i:=by simp;omega
  conv=>rhs;rw [<-this]
  rw [List.countP_eq_length];intro a ha;obtain⟨t,ht,rfl⟩:=CU ha;simp at ht;simpa using h1 t (by omega) (by omega)
 have e2:(l.drop i).countP (fun y=>decide (y<x))=0:=by
  rw [List.countP_eq_zero];intro a ha;obtain⟨t,ht,rfl⟩:=CU ha;simp at ht;have:=h2 (i+t) (by omega) (by omega);simp;omega
 omega
theorem qQ(l:List Int)(x:Int)(i:Nat)(h1:∀t(h:t<l.length),t<i->l[t]<x)(h2:∀t(h:t<l.length),i<=t->x<=l[t])
 (hs:∀a b(ha:a<l.length)(hb:b<l.length),a<b->l[a]<l[b])(hi:i<l.length)(hx:l[i]≠x):(l.any fun y=>y==x)=false:=by
 rw [Px];intro a ha;obtain⟨t,ht,rfl⟩:=CU ha;simp;rcases Ih t i with h| h
 ·have:=h1 t ht h;omega
 ·rcases Ih i t with h'| h'
  ·have:=hs i t hi ht h';have:=h2 i hi (Ad _);omega
  ·obtain rfl:t=i:=by omega
   exact hx
theorem kz(l:List Int)(x:Int)(h1:∀t(h:t<l.length),t<l.length->l[t]<x):(l.any fun y=>y==x)=false:=by
 rw [Px];intro a ha;obtain⟨t,ht,rfl⟩:=CU ha;have:=h1 t ht ht;simp;omega
theorem qR(l:List Int)(x:Int)(i:Nat)(hi:i<l.length)(hx:l[i]=x):(l.any fun y=>y==x)=true:=by
 rw [Yp];exact⟨l[i],BM _,by simpa using hx⟩
theorem Ag6{w:World}{A:Option Addr}{l:List Int}(h:Rd w A l.length (SY l)){t:Nat}(ht:t<l.length):∃(_:t<l.length)(p off:Nat),A=some ⟨p,off,none⟩/\p<w.heap.size/\w.cell? ⟨p,off+t,none⟩=some (.int .i64 l[t]):=by
 obtain⟨b,off,e,hb,hc⟩:=h.2 (by omega);refine⟨ht,b,off,e,hb,?_⟩;rw [hc t ht,SY,BZ,Af ht];rfl
theorem qU(x:Int)(w:World):Calls Tryz.prog 162 #[.int .i64 x] w fun e w'=>e= .returned (.bool false)/\w=w':=by
 go_enter Tryz.func162,Tryz.ntmps162;go_wp2;go_ret;exact⟨by simp,rfl⟩
theorem Xq(x:Int)(w:World):Calls Tryz.prog 118 #[.int .i64 x] w fun e w'=>e= .returned (.bool false)/\w=w':=by
 go_enter Tryz.func118,Tryz.ntmps118;go_wp2;go_ret;exact⟨by simp,rfl⟩
theorem Vk(x y:Int)(w:World):Calls Tryz.prog 117 #[.int .i64 x,.int .i64 y] w fun e w'=>e= .returned (.bool (decide (x<y)))/\w=w':=by
 go_enter Tryz.func117,Tryz.ntmps117
 go_wp2_with(go_at_call 162;refine(qU _ _).mono ?_;rintro e w'⟨rfl,rfl⟩)
 go_ret;exact⟨rfl,rfl⟩
theorem qV(A:Option Addr)(n c:Nat)(l:List Int)(x:Int)(w:World)(hbig:n<=1000000)(hln:l.length=n)(h:Rd w A n (SY l))(hs:∀a b(ha:a<l.length)(hb:b<l.length),a<b->l[a]<l[b]):
 Calls Tryz.prog 72 #[.slice A n c,.int .i64 x] w fun e w'=>e= .returned (.tuple #[.int .i64 (Yn l x:Nat),.bool (l.any fun y=>y==x)])/\w=w':=by
 subst hln;have S:=Aa hs;clear hs;go_enter Tryz.func72,Tryz.ntmps72;go_wp2
 go_loopg [7,8]l.length(fun g s7 s8 wr=>∃lo hi:Nat,s7= .int .i64 lo/\s8= .int .i64 hi/\lo<=hi/\hi<=l.length/\hi-lo<=g/\wr=w/\(∀t(h:t<l.length),t<lo->l[t]<x)/\(∀t(h:t<l.length),hi<=t->x<=l[t]))
 case atStart=>exact⟨0,l.length,rfl,rfl,BK _,Ad _,by omega,rfl,fun t _ ht=>absurd ht (Nat.not_lt_zero _),fun t h1 h2=>by omega⟩
 case round=>
  obtain⟨lo,hi,rfl,rfl,hlh,hin,hg,rfl,h1,h2⟩:=hrel;have I1:=Aa h1;have I2:=Aa h2;clear h1 h2;by_cases hlt:lo<hi
  ·obtain⟨hq,p,off,rfl,hp,hc⟩:=Ag6 h (show(lo+hi)/2<l.length by omega);generalize hy:l[(lo+hi)/2]=y at hc;have Y:=Aa hy;clear hy;by_cases hyx:y<x
   ·have hd:decide (y<x)=true:=decide_eq_true hyx
    go_wp2_with(go_at_call 117;refine(Vk _ _ _).mono ?_;rintro e w'⟨rfl,rfl⟩)
    go_roundg(hi- ((lo+hi)/2+1))
    case measure=>omega
    case rel=>
     refine⟨(lo+hi)/2+1,hi,by rw [show((lo:Int)+(hi:Int))/2+1=(((lo+hi)/2+1:Nat):Int)by omega],rfl,by omega,hin,Ad _,rfl,fun t ht htl=> ?_,I2.out⟩;rcases Ih t ((lo+hi)/2)with h'| h'
     ·have:=S.out t ((lo+hi)/2) ht hq h';rw [Y.out]at this;omega
     ·obtain rfl:t=(lo+hi)/2:=by omega
      rw [Y.out];exact hyx
   ·have hd:decide (y<x)=false:=decide_eq_false hyx
    go_wp2_with(go_at_call 117;refine(Vk _ _ _).mono ?_;rintro e w'⟨rfl,rfl⟩)
    go_roundg((lo+hi)/2-lo)
    case measure=>omega
    case rel=>
     refine⟨lo,(lo+hi)/2,rfl,by rw [show((lo:Int)+(hi:Int))/2=(((lo+hi)/2:Nat):Int)by omega],by omega,by omega,Ad _,rfl,I1.out,fun t ht htn=> ?_⟩;rcases Ih ((lo+hi)/2) t with h'| h'
     ·have:=S.out ((lo+hi)/2) t hq ht h';rw [Y.out]at this;omega
     ·obtain rfl:t=(lo+hi)/2:=by omega
      rw [Y.out];omega
  ·have:hi=lo:=by omega
   subst this;have E:=Aa (qP l x hi hin I1.out I2.out);by_cases hn:hi<l.length
   ·obtain⟨hq,p,off,rfl,hp,hc⟩:=Ag6 h hn;generalize hy:l[hi]=y at hc;have Y:=Aa hy;clear hy;by_cases hyx:y=x
    ·have E2:=Aa (qR l x hi hn (by rw [Y.out];exact hyx));have hd:(y==x)=true:=by rw [beq_iff_eq];exact hyx
     clear hyx
     go_wp2_with(go_at_call 118;refine(Xq _ _).mono ?_;rintro e w'⟨rfl,rfl⟩)
     go_ret2;exact⟨by rw [E.out,E2.out];rfl,rfl⟩
    ·have E2:=Aa (qQ l x hi I1.out I2.out S.out hn (by rw [Y.out];exact hyx));have hd:(y==x)=false:=by rw [beq_eq_false_iff_ne];exact hyx
     clear hyx
     go_wp2_with(go_at_call 118;refine(Xq _ _).mono ?_;rintro e w'⟨rfl,rfl⟩)
     go_ret2;exact⟨by rw [E.out,E2.out];rfl,rfl⟩
   ·have hle:hi=l.length:=by omega
    have E2:=Aa (kz l x (fun t ht _=>I1.out t ht (by omega)));clear hle
    go_wp2_with fail
    go_ret2;exact⟨by rw [E.out,E2.out];rfl,rfl⟩
section
variable{w w':World}{x d p L:Nat}{s:St}{F:Nat->Prop}
end
theorem Anv{l:List Int}(h:l.Pairwise (fun x y=>x<y)):∀a b(ha:a<l.length)(hb:b<l.length),a<b->l[a]<l[b]:=fun a b ha hb hab=>JR.1 h a b ha hb hab
def Un(Y:Nat->Prop)(L:Nat)(s:St)(items:List Kv)(ch:List UInt8->List Lk)(k:Nat)(sk:St):Prop:=
 EW (fun o=>Y o/\o∉(Dx s).take k) L sk items ch/\sk.sh=s.sh/\(∀j,j<16->sk.ws j=s.ws j)/\∀p d,AP sk p d<->AP s p d/\¬(Y p/\p∈(Dx s).take k)
theorem Ada{Y:Nat->Prop}{L:Nat}{s sk:St}{items:List Kv}{ch:List UInt8->List Lk}(ok:BA L s){r:List Int}(hr:∀o:Nat,(o:Int)∈r<->(∃d,AP s o d)/\¬Y o){k:Nat}(hk:k<(Dx s).length)(hf:Un Y L s items ch k sk):
 ((r.any fun z=>z==(((Dx s)[k]:Nat):Int))=true/\Un Y L s items ch (k+1) sk)\/
 ((r.any fun z=>z==(((Dx s)[k]:Nat):Int))=false/\∃s2,J4 sk ((Dx s)[k]:Nat)=(s2,0)/\Un Y L s items ch (k+1) s2):=by
 obtain⟨h,Ag7,hlo0,Asd⟩:=hf;have ht:∃d,AP s (Dx s)[k] d:=(Ia ok _).1 (BM _);have htk:(Dx s).take (k+1)=(Dx s).take k++[(Dx s)[k]]:=by rw [List.take_add_one,Af hk];rfl
 have hnk:(Dx s)[k]∉(Dx s).take k:=fun hm=>by
  obtain⟨j,hj,e⟩:=CU hm;rw [DC]at hj;rw [List.getElem_take]at e;have:=JR.1 (Oo ok) j k (by omega) hk (by omega);omega
 by_cases hm:(((Dx s)[k]:Nat):Int)∈r
 ·have hny:=((hr _).1 hm).2;refine .inl ⟨Yp.2 ⟨_,hm,by simp⟩,h.congr (fun o=> ?_),Ag7,hlo0,fun p d=> ?_⟩
  ·rw [htk,AL,BC];exact⟨fun⟨h1,h2⟩=>⟨h1,fun h3=>h3.elim h2 (fun e=>hny (e▸h1))⟩,fun⟨h1,h2⟩=>⟨h1,fun h3=>h2 (.inl h3)⟩⟩
  ·rw [Asd p d,htk,AL,BC];exact and_congr_right fun _=>not_congr ⟨fun⟨h1,h2⟩=>⟨h1,.inl h2⟩,fun⟨h1,h2⟩=>⟨h1,h2.resolve_right (fun e=>hny (e▸h1))⟩⟩
 ·have hY:Y (Dx s)[k]:=Classical.byContradiction fun hn=>hm ((hr _).2 ⟨ht,hn⟩)
  obtain⟨s2,e2,hs2,hsh,hlo⟩:=h.drop (o:=(Dx s)[k]) ⟨hY,hnk⟩;have htd:=h.Ajw (o:=(Dx s)[k]) ⟨hY,hnk⟩ e2;refine .inr ⟨?_,s2,e2,hs2.congr (fun o=> ?_),hsh.trans Ag7,fun j hj=>(hlo j hj).trans (hlo0 j hj),fun p d=> ?_⟩
  ·rw [Px];intro z hz e;rw [beq_iff_eq]at e;exact hm (e▸hz)
  ·rw [htk,AL,BC];exact⟨fun⟨⟨h1,h2⟩,h3⟩=>⟨h1,fun h4=>h4.elim h2 h3⟩,fun⟨h1,h2⟩=>⟨⟨h1,fun h3=>h2 (.inl h3)⟩,fun e=>h2 (.inr e)⟩⟩
  ·rw [htd p d,Asd p d,htk,AL,BC];exact⟨fun⟨⟨h1,h2⟩,h3⟩=>⟨h1,fun⟨h4,h5⟩=>h5.elim (fun h6=>h2 ⟨h4,h6⟩) h3⟩,fun⟨h1,h2⟩=>⟨⟨h1,fun⟨h3,h4⟩=>h2 ⟨h3,.inl h4⟩⟩,fun e=>h2 ⟨e▸hY,.inr e⟩⟩⟩
theorem Ag8{Y:Nat->Prop}{L:Nat}{s sk:St}{items:List Kv}{ch:List UInt8->List Lk}(ok:BA L s){r:List Int}(hr:∀o:Nat,(o:Int)∈r<->(∃d,AP s o d)/\¬Y o){n k:Nat}(hn:n=(Dx s).length)(hk:k<n)(h:Un Y L s items ch k sk){w:World}{A:Option Addr}(hA:Rd w A (Dx s).length (UW (Dx s))):
 ∃b off y:Nat,A=some ⟨b,off,none⟩/\b<w.heap.size/\w.cell? ⟨b,off+k,none⟩=some (.int .i64 (y:Int))/\y<=65536/\(((r.any fun z=>z==(y:Int))=true/\Un Y L s items ch (k+1) sk)\/
 ((r.any fun z=>z==(y:Int))=false/\∃s2,J4 sk y=(s2,0)/\Un Y L s items ch (k+1) s2)):=by
 have hkl:k<(Dx s).length:=by omega
 obtain⟨b,off,u,rfl,hbw,hu,q0⟩:=hA.at (k:=k) hkl;rw [UW,BZ,Af hkl,DK,Option.some.injEq]at hu;subst hu;refine⟨b,off,(Dx s)[k],rfl,hbw,q0,?_,Ada ok hr hkl h⟩;obtain⟨d,hd⟩:=(Ia ok _).1 (BM hkl);have:=(hd.bounds ok).2.1;have:=ok.L1;omega
section
variable{w w':World}{x d p L:Nat}{s:St}{F:Nat->Prop}{items:List Kv}{ch:List UInt8->List Lk}{Y:Nat->Prop}
theorem qW(h:Ix w x d p L s F)(hs:EW Y L s items ch):
 Calls Tryz.prog 31 #[Aw d,Aw p,Aw x] w fun e w'=>e= .returned (.int .i64 0)/\∃s' F',Ix w' x d p L s' F'/\Du L s' items ch/\s'.sh=s.sh/\(∀j,j<16->s'.ws j=s.ws j)/\AO F F' w w'/\∀o d,AP s' o d<->AP s o d/\¬Y o:=by
 obtain⟨its,met,r,q1, -,q3,q4,q5,q6,q7, -⟩:=zJ hs;have HR:=Aa (SL h q1 q3 q4 q5);have hal:=zI hs.ix.ok;obtain⟨n,hn⟩:∃n,n=(Dx s).length:=⟨_,rfl⟩;have hnl:n<=100000:=by omega
 have HX:=Aa h;have HS:=Aa hs;have HUp:=Aa q6;have HMe:=Aa q7;have HN:=Aa hn;have LG:Hid (∀b,F b->b<w.heap.size):=Aa h.sys.lt;have hq4:=q4;clear h hs q1 q3 q4 q5 q6 q7 hn hal;go_enter Tryz.func31,Tryz.ntmps31
 go_wp2_with fail
 refine HR.out.mono ?_;rintro e w2⟨v2,rfl,ho2,hb2⟩;obtain⟨A2,c2,rfl,hc2,_⟩:=DN ho2;have HB2:=Aa hb2;have HR2:Hid (IK w2 F A2 r.length (SY (Dc r))):=Aa (IK.JI ho2 (fun b h1 _ h3=>absurd (LG.out b h3) (by omega)));have HA:=Aa (show Calls Tryz.prog 17 #[Aw p] w2 fun e w'=>∃v,e= .returned v/\w'.ownsRow w2.heap.size 3 1 v (Dx s).length (UW (Dx s))/\Below w2.heap.size w2 w' from by
  obtain⟨tb,hb,n,cT,cH,own,hr, -⟩:=(HX.out.below hb2).sys;exact Pg hr.at)
 clear HR ho2 hb2 hc2
 go_wp2_with fail
 refine HA.out.mono ?_;rintro e w3⟨v3,rfl,ho3,hb3⟩;obtain⟨A3,c3,rfl,hc3,_⟩:=DN ho3;have HB3:=Aa (HB2.out.trans (hb3.mono HB2.out.size));have Ase:=Aa (HR2.out.below hb3);have HR3:Hid (IK w3 F A3 (Dx s).length (UW (Dx s))):=Aa (IK.JI ho3 (fun b h1 _ h3=>absurd (LG.out b h3) (by have:=HB2.out.size;omega)));have HX3:=Aa (HX.out.below HB3.out);clear HA ho3 hb3 hc3 HR2;rw [<-HN.out]
 go_wp2_with fail
 go_loopw [26](fun i wq=>∃(k:Nat)(sk:St)(Fk:Nat->Prop),k<=n/\i= .int .i64 (k:Nat)/\Ix wq x d p L sk Fk/\Un Y L s items ch k sk/\AO F Fk w wq/\IK wq Fk A2 r.length (SY (Dc r))/\IK wq Fk A3 (Dx s).length (UW (Dx s)))(fun i _=>n- (intOf i).toNat)
 case atStart=>exact⟨0,s,F,BK _,rfl,HX3.out,⟨HS.out.congr (fun o=>⟨fun h=>⟨h,fun h=>(nomatch h)⟩,fun h=>h.1⟩),rfl,fun _ _=>rfl,fun _ _=>⟨fun h=>⟨h,fun h=>(nomatch h.2)⟩,fun h=>h.1⟩⟩,AO.of_below HB3.out,Ase.out,HR3.out⟩
 case round=>
  obtain⟨k,sk,Fk,hk,rfl,hxk,hsk,hmk,hr2,hr3⟩:=hrel;have HXk:=Aa hxk;have HMk:=Aa hmk;have Anw:=Aa hr2;have Anx:=Aa hr3;have HSk:=Aa hsk;clear hxk hmk hr2 hr3 hsk HX3 Ase HR3;by_cases hlt:k<n
  ·obtain⟨b,off,y,rfl,hbw,q0,hy6,hst⟩:=Ag8 HS.out.ix.ok HMe.out HN.out hlt HSk.out Anx.out.1;have OO:=Aa hst;have HSr:=Aa (qV A2 r.length c2 (Dc r) y wr (by omega) (JZ r) Anw.out.1 (Anv HUp.out));have kM:=Aa (VD HXk.out.sys y (by omega));clear hst hy6;generalize Yn (Dc r) ((y:Nat):Int)=z at HSr;obtain⟨hx1,hx2,hx5⟩:=aJ hlt;have hwk:=lh k (by omega);rcases OO.out with⟨ha,hs'⟩| ⟨ha,s2,e2,hs'⟩
   ·rw [ha]at HSr;have HS':=Aa hs';clear ha hs' kM OO
    go_wp2_with fail
    refine HSr.out.mono ?_;rintro e w5⟨rfl,rfl⟩
    go_wp2_with fail
    go_roundw
    case rel=>exact⟨k+1,sk,Fk,by omega,by go_num,HXk.out,HS'.out,HMk.out,Anw.out,Anx.out⟩
    case measure=>simp [intOf];omega
   ·rw [ha]at HSr;rw [e2]at kM;have HS':=Aa hs';clear ha hs' e2 OO
    go_wp2_with fail
    refine HSr.out.mono ?_;rintro e w5⟨rfl,rfl⟩
    go_wp2_with fail
    refine kM.out.mono ?_;rintro e w6⟨rfl,F6,hS6,kU⟩;have kV:=Aa (HXk.out.move hS6 kU);have TY:=Aa kU;clear hS6 kU kM HSr
    go_wp2_with fail
    go_roundw
    case rel=>exact⟨k+1,s2,F6,by omega,by go_num,kV.out,HS'.out,HMk.out.trans TY.out,Anw.out.moved TY.out,Anx.out.moved TY.out⟩
    case measure=>simp [intOf];omega
  ·obtain⟨hx2,hx5⟩:=yj hlt;have hkn:k=(Dx s).length:=by have:=HN.out;omega
   go_wp2_with fail
   go_ret;obtain⟨hsk,hsh,hlo,htk⟩:=HSk.out;have hall:∀o,Y o->o∈(Dx s).take k:=fun o ho=>by
    rw [hkn,MG];exact(Ia HS.out.ix.ok o).2 (HS.out.taken ho)
   exact⟨rfl,sk,Fk,HXk.out,hsk.ok (fun o hY=>hY.2 (hall o hY.1)),hsh,hlo,HMk.out,fun o d=>(htk o d).trans (and_congr_right fun _=>not_congr ⟨fun h=>h.1,fun h=>⟨h,hall o h⟩⟩)⟩
end
section
variable{Y:Nat->Prop}{L:Nat}{s0 s:St}{items:List Kv}{ch:List UInt8->List Lk}
def Ak7:Prop:=∀(w:World)(d L:Nat)(own Y:Nat->Prop)(s0 s:St)(items:List Kv)(ch:List UInt8->List Lk),0<L->L<=1024->Dev w d L s.ws M0 (fun _=>0) own->Tabs w->¬own 0->¬own 1->shapeOf L=some s.sh->wordsAt s.ws 0 8=wordsOf s.sh->
    Loose L s0 s Y items ch->BA L s0->(∀k,∀y∈ch k,y.rc.stamp.toNat<=(s.ws 8).toNat)->(s.ws 8).toNat<=60000->
    Calls Tryz.prog 8 #[Aw d] w fun e w'=>∃p x F s',e= .returned (.tuple #[.agg #[Aw p,Aw x,.int .u64 ((s.ws 8).toNat:Int)],.int .i64 0])/\
     Ix w' x d p L s' F/\(Du L s' items ch/\s'.ws 8=s.ws 8/\Dx s'=Dx s0)/\Touch own w w'/\(∀b,F b->own b\/w.heap.size<=b)/\w.heap.size<=x
theorem Adb{w:World}{d:Nat}{own:Nat->Prop}(hL0:0<L)(hL:L<=1024)(hD:Dev w d L s.ws M0 (fun _=>0) own)(hT:Tabs w)(g1:¬own 0)(g2:¬own 1)(hsh:shapeOf L=some s.sh)(h8:wordsAt s.ws 0 8=wordsOf s.sh)
 (hlo:Loose L s0 s Y items ch)(h0:BA L s0)(_:∀k,∀y∈ch k,y.rc.stamp.toNat<=(s.ws 8).toNat)(h60:(s.ws 8).toNat<=60000)
 (hB:∀(W:World)(p x:Nat)(F:Nat->Prop),Ix W x d p L (Ee s.ws s.sh) F->EW Y L (Ee s.ws s.sh) items ch->(∃met,DU (Ee s.ws s.sh)=some (items.map (fun kv=>(pairs kv.1,kv.2)),met))->
  Calls Tryz.prog 30 #[Aw d,Aw p,Aw x,.int .u64 ((s.ws 8).toNat:Int)] W fun e W1=>e= .returned (.int .i64 0)/\∃F1,Ix W1 x d p L (Ee s.ws s.sh) F1/\AO F F1 W W1):
 Calls Tryz.prog 8 #[Aw d] w fun e w'=>∃p x F s',e= .returned (.tuple #[.agg #[Aw p,Aw x,.int .u64 ((s.ws 8).toNat:Int)],.int .i64 0])/\
  Ix w' x d p L s' F/\(Du L s' items ch/\s'.ws 8=s.ws 8/\Dx s'=Dx s0)/\Touch own w w'/\(∀b,F b->own b\/w.heap.size<=b)/\w.heap.size<=x:=by
 obtain⟨hy,ht⟩:=hlo.opened;obtain⟨its,met,r,q1,q2,q3,q4,q5,_⟩:=zJ hy;subst q2;refine fV (s:=Ee s.ws s.sh) (G:=fun s'=>Du L s' items ch/\s'.ws 8=s.ws 8/\Dx s'=Dx s0) hL0 hL hsh hD hT g1 g2 h8 (fun i hi=> ?_) rfl q1 h60 (fun W p x F hx=>(SL hx q1 q3 q4 q5).mono ?_) (fun W p x F hx hsz hF=>(hB W p x F hx hy ⟨_,q1⟩).mono ?_)
 ·rw [hlo.sto.ix.ok.sh.table,show 128/8+i=16+i by omega,hlo.sto.ix.ok.tab i hi];exact(hlo.sto.ix.ok.tk i hi).right
 ·rintro e w'⟨v,rfl,ho,hb⟩;obtain⟨A,c,rfl,_,_⟩:=DN ho;exact⟨⟨A,_,c,rfl⟩,hb⟩
 ·rintro e W1⟨rfl,F1,hx1,hm1⟩;have hF1:∀b,F1 b->own b\/w.heap.size+1<=b:=fun b hb=>(hm1.own b hb).elim (hF b) (fun h=> .inr (Nat.le_trans hsz h))
  refine⟨rfl,_,F1,hx1,hm1,hm1.touch.mono hF,(qW hx1 hy).mono ?_⟩;rintro e W2⟨rfl,s2,F2,hx2,hs2,_,hlo2,hm2,ht2⟩;exact⟨rfl,s2,F2,hx2,hm2,hm2.touch.mono hF1,hs2,hlo2 8 (by decide),hlo.freed h0 hs2.ix.ok ht2⟩
end
