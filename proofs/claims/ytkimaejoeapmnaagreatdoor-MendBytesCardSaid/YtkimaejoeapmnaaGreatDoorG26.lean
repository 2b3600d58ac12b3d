import Derived.Test.YtkimaejoeapmnaaGreatDoorG25
set_option maxHeartbeats 32000000
set_option maxRecDepth 100000
open Go.Lib renaming hid->Aa
open List renaming mem_of_getLast?->MF,length_nil->Dt
open UInt64 renaming toNat_inj->Eo
namespace Go.Proofs.YtkimaejoeapmnaaGreatDoor
open Go.RowKit
theorem ZC{s:St}:∀(f:Nat)(name:UInt64)(rest:List UInt8)(label:UInt8)(word:Int)(way bf:List Pl)(rest':List UInt8),Ep s f name rest label word way=some (bf,rest')->bf.length<=way.length+f
 | 0,name,rest,label,word,way,bf,rest',h=>by
   rw [Ep]at h;injection h with h
   injection h with h1 h2
   subst h1;omega
 | f+1,name,rest,label,word,way,bf,rest',h=>by
   rw [Ep]at h;split at h
   ·injection h with h
    injection h with h1 h2
    subst h1;omega
   ·split at h
    ·cases h
    ·split at h
     ·injection h with h
      injection h with h1 h2
      subst h1;simp
     ·split at h
      ·injection h with h
       injection h with h1 h2
       subst h1;simp
      ·have:=ZC f _ _ _ _ _ _ _ h;simp at this;omega
theorem Ph{s:St}{key:List UInt8}{way:List Pl}{rest:List UInt8}(h:FQ s key=some (way,rest)):way.length<=2*key.length+1:=by
 have:=ZC _ _ _ _ _ _ _ _ h;simpa using this
theorem Qb.below{w w':World}{base:Nat}{A:Option Addr}{l:List UInt8}(h:Qb w base A l)(k:Below w.heap.size w w'):Qb w' base A l:=(CV.of_below k).rs h
section
variable{w:World}{x d p L:Nat}{s:St}{F:Nat->Prop}{lf:Int}
theorem Ab1(h:IX (.up (MU lf)) w x d p L s F)(key:ByteArray)(h16:¬16<key.size)(value:UInt64)(hv0:value≠0)(way:List Pl)(rest:List UInt8)(hpa:FQ s key.data.toList=some (way,rest))(last:Pl)(hst:CX way rest=some last):
 Calls Tryz.prog 71 #[Aw x,.string key,.int .u64 (value.toNat:Int)] w (Rl (PS ⟨.up lf,s⟩ key.data.toList value) x d p L F w):=by
 have HA:=Aa (JV h key (by omega));rw [if_neg h16]at HA;have HX:=Aa h;have hkl:=Qi key;obtain⟨l0,l1,ok,FT⟩:=h.L0;have Afy:16<=L:=by have:=ok.fits;have:=ok.BI;omega
 obtain⟨J7,hrl⟩:=SB ok (by omega) FT hpa;have hwl:=Ph hpa;rw [hkl]at hrl hwl;replace hrl:rest.length<=32:=by omega
 replace hwl:way.length<=33:=by omega
 have hpre:∀pl∈way,pl.nd.pre.length<=1000:=fun pl hm=>by have:=((Bo _).1 (J7 pl hm).right).1;omega
 have HPk:=Aa J7;have wJ:=Aa hpre;have Tu:=Aa (JM h key (by omega));have Zz:=Aa hpa;have hxl:=h.box.lt;have jB:=Aa h.sys.tabs.lt;have LG:=Aa h.sys.lt;have OO:=Aa hst;have hmem:last∈way:=by
  unfold CX at hst;split at hst
  ·cases hst
  ·rename_i l hl;split at hst
   ·injection hst with hst;subst hst;exact MF hl
   ·cases hst
 have o5:=Aa (J7 last hmem);have HP:Hid (PS ⟨.up lf,s⟩ key.data.toList value=NF ⟨.up lf,s⟩ last value):=Aa (by unfold PS;rw [hkl,if_neg h16,if_neg hv0];simp only [hpa,hst]);clear hst hmem;have t1:((value.toNat:Int)==0)=false:=by
  rw [beq_eq_false_iff_ne];intro e;exact hv0 (Eo.1 (by simp;omega))
 clear h h16 hv0 hpa hkl ok FT J7 hpre;go_enter Tryz.func71,Tryz.ntmps71
 go_wp2_with fail
 refine HA.out.mono ?_;rintro e w1⟨rfl,rfl⟩;clear HA
 go_wp2_with fail
 refine Tu.out.mono ?_;rintro e w1⟨hb1,hp1⟩;rw [Zz.out]at hp1;obtain⟨vw,A,c,rfl,J6,hrs,hrc⟩:=hp1;have HW1:=Aa J6;have HR1:=Aa hrs;have HB1:=Aa hb1;clear J6 hrs hb1 Tu
 go_wp2_with fail
 refine(Hm HW1.out (by omega) wJ.out HR1.out.1 (by omega)).mono ?_;rintro e w2⟨hb2,hp2⟩;rw [OO.out]at hp2;obtain⟨a,b,c',d',rfl,hnd⟩:=hp2;obtain⟨A1,m1,A2,m2,A3,m3,e,o1,o2,o3⟩:=hnd;simp only [Value.agg.injEq]at e;simp at e;obtain⟨rfl,rfl,rfl,rfl⟩:=e;have HB2:=Aa (HB1.out.trans (hb2.mono HB1.out.size));obtain⟨W3,hW3,hb3,B3⟩:=FB w2 214 [.slice A1 last.nd.pre.length m1,.int .u64 (last.nd.val.toNat:Int),.slice A2 last.nd.labels.length m2,.slice A3 last.nd.kids.length m3,.int .i64 last.off,.int .u8 (last.label.toNat:Int),.int .i64 last.word];have HB3:=Aa (HB2.out.trans (hb3.mono HB2.out.size));have HV:=Aa (Qd (q:=⟨.up lf,s⟩) (HX.out.below HB3.out) last (o5.out) A1 A2 A3 last.nd.pre.length m1 last.nd.labels.length m2 last.nd.kids.length m3 value);have HW3:=Aa hW3;obtain⟨y0,y1,y2,y3,y4,y5,y6⟩:=ED B3;rw [hW3]at y0 y1 y2 y3 y4 y5 y6;clear o1 o2 o3 hb2 hb3 B3 hW3
 go_wp2_with fail
 rw [<-HW3.out];refine HV.out.mono ?_;rintro e w4⟨rfl,F4,hx4,hm4⟩;have HF:=Aa (And.intro hx4 ((AO.of_below (F:=F) HB3.out).trans hm4));clear hx4 hm4 y0 y1 y2 y3 y4 y5 y6 HV HW3
 go_wp2_with fail
 go_ret;refine⟨by rw [HP.out];rfl,F4,?_,HF.out.2⟩;rw [HP.out];exact HF.out.1
theorem Ab2(h:IX (.up (MU lf)) w x d p L s F)(key:ByteArray)(h16:¬16<key.size)(value:UInt64)(hv0:value≠0)(way:List Pl)(rest:List UInt8)(hpa:FQ s key.data.toList=some (way,rest))(hw0:way=[])(hst:CX way rest=none):
 Calls Tryz.prog 71 #[Aw x,.string key,.int .u64 (value.toNat:Int)] w (Rl (PS ⟨.up lf,s⟩ key.data.toList value) x d p L F w):=by
 have HA:=Aa (JV h key (by omega));rw [if_neg h16]at HA;have HX:=Aa h;have hkl:=Qi key;obtain⟨l0,l1,ok,FT⟩:=h.L0;have Afy:16<=L:=by have:=ok.fits;have:=ok.BI;omega
 obtain⟨J7,hrl⟩:=SB ok (by omega) FT hpa;have hwl:=Ph hpa;rw [hkl]at hrl hwl;replace hrl:rest.length<=32:=by omega
 replace hwl:way.length<=33:=by omega
 have hpre:∀pl∈way,pl.nd.pre.length<=1000:=fun pl hm=>by have:=((Bo _).1 (J7 pl hm).right).1;omega
 have HPk:=Aa J7;have wJ:=Aa hpre;have Tu:=Aa (JM h key (by omega));have Zz:=Aa hpa;have hxl:=h.box.lt;have jB:=Aa h.sys.tabs.lt;have LG:=Aa h.sys.lt;have OO:=Aa hst;obtain⟨⟨j1,name,er⟩,hr⟩:∃r,KN (rest.length+1) ⟨⟨.up lf,s⟩,[]⟩ rest value=r:=⟨_,rfl⟩;have HR:=Aa hr;have Aub:way.length=0:=by rw [hw0];rfl
 have HP:Hid (PS ⟨.up lf,s⟩ key.data.toList value=Fa j1 er 72 name []):=Aa (by unfold PS;rw [hkl,if_neg h16,if_neg hv0,hpa];simp only;rw [hst,hw0];simp only [List.getLast?_nil];rw [hr]);clear hst hw0 hr;have t1:((value.toNat:Int)==0)=false:=by
  rw [beq_eq_false_iff_ne];intro e;exact hv0 (Eo.1 (by simp;omega))
 clear h h16 hv0 hpa hkl ok FT J7 hpre;go_enter Tryz.func71,Tryz.ntmps71
 go_wp2_with fail
 refine HA.out.mono ?_;rintro e w1⟨rfl,rfl⟩;clear HA
 go_wp2_with fail
 refine Tu.out.mono ?_;rintro e w1⟨hb1,hp1⟩;rw [Zz.out]at hp1;obtain⟨vw,A,c,rfl,J6,hrs,hrc⟩:=hp1;have HW1:=Aa J6;have HR1:=Aa hrs;have HB1:=Aa hb1;clear J6 hrs hb1 Tu
 go_wp2_with fail
 refine(Hm HW1.out (by omega) wJ.out HR1.out.1 (by omega)).mono ?_;rintro e w2⟨hb2,hp2⟩;rw [OO.out]at hp2;replace hp2:e= .returned (.tuple #[.agg #[.slice none 0 0,.int .u64 0,.slice none 0 0,.slice none 0 0,.int .i64 0,.int .u8 0,.int .i64 0],.bool false]):=hp2;subst hp2;obtain⟨Av,cv,hvw⟩:∃Av cv,vw= .slice Av way.length cv:=by
  obtain⟨vs,ho,_⟩:=HW1.out;rcases ho.2 with⟨e1,e2⟩| ⟨g,cap,cur,e1,_⟩
  ·exact⟨none,0,by rw [e1,e2]⟩
  ·exact⟨_,_,e1⟩
 subst hvw;have HB2:=Aa (HB1.out.trans (hb2.mono HB1.out.size));obtain⟨w3,hw3,Gh, -⟩:=FB w2 214 [.slice none 0 0,.int .u64 0,.slice none 0 0,.slice none 0 0,.int .i64 0,.int .u8 0,.int .i64 0];obtain⟨w4,hw4,Gz, -⟩:=FB w3 219 [Aw x,.slice none 0 0];have hs3:w3.heap.size=w2.heap.size+1:=by rw [hw3];simp
 have HB3:=Aa (HB2.out.trans (Gh.mono HB2.out.size));have HB4:=Aa (HB3.out.trans (Gz.mono HB3.out.size));have hsz:=HB3.out.size;have hJ:=jy (q:=⟨.up lf,s⟩) (HX.out.below HB4.out) hw4 (fun b hb=>by have:=LG.out b hb;omega) (by omega) (by have:=jB.out;omega);have HGj:Hid (∀b,(fun b=>F b\/b=w3.heap.size) b->F b\/w.heap.size<=b):=Aa (fun b hb=>hb.imp id (fun e=>by omega));have Qj:Below w1.heap.size w1 w3:=hb2.trans (Gh.mono hb2.size);have jC:=Qb.below HR1.out Qj;have hrd:IK w4 (fun b=>F b\/b=w3.heap.size) A rest.length (rest.map bv):=by
  refine IK.below (w:=w3) ⟨jC.1,fun hn a ea hg=> ?_⟩ Gz;obtain⟨rb,ro,e',hrb,_⟩:=jC.1.2 hn;rw [e']at ea;injection ea with ea
  subst ea;rcases hg with hg| hg
  ·have:=(jC.2 _ _ e').1;have:=LG.out _ hg;simp only at this;omega
  ·simp only at hg;omega
 have HL:=UX (rest.length+1) w4 ⟨⟨.up lf,s⟩,[]⟩ _ rest value A c hJ hrd hrc (by omega) (by omega) (by simp only [Dt];omega);rw [HR.out]at HL;have HL:=Aa HL;have HW3:=Aa hw3;have aA:=Aa hw4;have OC:=Aa hs3;have hmd:=Ld (rest.length+1) ⟨⟨.up lf,s⟩,[]⟩ rest value;rw [HR.out]at hmd;simp only [Dt]at hmd;rw [Aub]at*;clear hb2 Gh Gz hs3 hJ hrd jC Qj hw3 hw4
 go_wp2_with fail
 rw [<-HW3.out,<-aA.out,<-OC.out];refine HL.out.mono ?_;rintro e w5⟨rfl,G5,hj5,QH⟩;have hfin:Calls Tryz.prog 115 #[Aw w3.heap.size,.int .i64 er,.int .i64 72,.int .u64 (name.toNat:Int),.slice none 0 0] w5 (Qg (Fa j1 er 72 name []) w3.heap.size w3.heap.size x d p L j1 G5 w5):=
  Qh hj5 er 72 9 rfl (by omega) name none 0 [] IK.nil (fun o ho=>nomatch ho) (Nat.zero_le _) (by show j1.made.length<=1000;omega)
 have HFin:=Aa hfin;have QY:=Aa QH;clear hfin QH hj5 HL
 go_wp2_with fail
 first
  | refine HFin.out.mono ?_
  | (rw [<-OC.out];refine HFin.out.mono ?_)
 rintro e w6⟨rfl,G6,hj6,Vu⟩;have HD:=Aa (hj6.done (QY.out.trans Vu) HB4.out HGj.out);clear hj6 Vu HFin
 go_wp2_with fail
 go_ret;refine⟨by rw [HP.out];rfl,?_⟩;rw [HP.out];exact HD.out
end
theorem Zx.mono{w:World}{G F:Nat->Prop}{a b c d:Value}{nd:Nd}(h:Zx w G a b c d nd)(k:∀b,b<w.heap.size->F b->G b):Zx w F a b c d nd:=by
 obtain⟨A1,c1,A2,c2,A3,c3,e1,e2,e3,e4,hc,h1,h2,h3⟩:=h;exact⟨A1,c1,A2,c2,A3,c3,e1,e2,e3,e4,hc,h1.mono k,h2.mono k,h3.mono k⟩
theorem wK(j:Jm)(x:Nd)(rest:List UInt8)(value:UInt64):(Jp j x rest value).1.made.length<=j.made.length+rest.length+4:=by
 have hl:=fun j' l=>Ld (rest.length+1) j' l value
 have hb:=Ij j {x with pre:=x.pre.drop (common x.pre rest+1)};unfold Jp;split
 ·have:=hl j (rest.drop (common x.pre rest+1));split;rename_i j1 kid e he;rw [he]at this;have h2:=Oh j1 x (rest.getD (common x.pre rest) 0) kid e;simp only at this;omega
 ·split;rename_i j1 kid e he;rw [he]at hb;simp only at hb;split
  ·have h2:=Oh j1 ⟨x.pre.take (common x.pre rest),value,[],[]⟩ (x.pre.getD (common x.pre rest) 0) kid e;omega
  ·split
   ·simp only;omega
   ·split
    ·split;rename_i j2 Y2 e2 he2;have:=hl j1 (rest.drop (common x.pre rest+1));rw [he2]at this;have h2:=Oh j2 (H5 ⟨x.pre.take (common x.pre rest),0,[],[]⟩ (x.pre.getD (common x.pre rest) 0) kid) (rest.getD (common x.pre rest) 0) Y2 e2;simp only at this;omega
    ·simp only;omega
section
variable{w:World}{x d p L:Nat}{s:St}{F:Nat->Prop}{lf:Int}
theorem Afz(h:IX (.up (MU lf)) w x d p L s F)(key:ByteArray)(h16:¬16<key.size)(value:UInt64)(hv0:value≠0)(way:List Pl)(rest:List UInt8)(hpa:FQ s key.data.toList=some (way,rest))(hw0:way≠[])(hst:CX way rest=none):
 Calls Tryz.prog 71 #[Aw x,.string key,.int .u64 (value.toNat:Int)] w (Rl (PS ⟨.up lf,s⟩ key.data.toList value) x d p L F w):=by
 have HA:=Aa (JV h key (by omega));rw [if_neg h16]at HA;have HX:=Aa h;have hkl:=Qi key;obtain⟨l0,l1,ok,FT⟩:=h.L0;have Afy:16<=L:=by have:=ok.fits;have:=ok.BI;omega
 obtain⟨J7,hrl⟩:=SB ok (by omega) FT hpa;have hwl:=Ph hpa;rw [hkl]at hrl hwl;replace hrl:rest.length<=32:=by omega
 replace hwl:way.length<=33:=by omega
 have hpre:∀pl∈way,pl.nd.pre.length<=1000:=fun pl hm=>by have:=((Bo _).1 (J7 pl hm).right).1;omega
 have HPk:=Aa J7;have wJ:=Aa hpre;have Tu:=Aa (JM h key (by omega));have Zz:=Aa hpa;have hxl:=h.box.lt;have jB:=Aa h.sys.tabs.lt;have LG:=Aa h.sys.lt;have hn0:0<way.length:=List.length_pos_iff.2 hw0;obtain⟨last,hla⟩:∃last,way[way.length-1]'(by omega)=last:=⟨_,rfl⟩;have hgl:way.getLast? =some last:=by rw [List.getLast?_eq_getElem?,List.getElem?_eq_getElem (by omega),hla]
 have hne:last.nd.pre≠rest:=by
  intro e;unfold CX at hst;rw [hgl]at hst;simp only at hst;rw [if_pos e]at hst;cases hst
 have o5:=Aa (J7 last (MF hgl));have HLa:=Aa hla;have HNe:=Aa hne;have OO:=Aa hst;obtain⟨⟨j1,name,er⟩,hr⟩:∃r,Jp ⟨⟨.up lf,s⟩,[]⟩ last.nd rest value=r:=⟨_,rfl⟩;have HR:=Aa hr;have HP:Hid (PS ⟨.up lf,s⟩ key.data.toList value=Fa j1 er last.word name [last.off]):=Aa (by unfold PS;rw [hkl,if_neg h16,if_neg hv0,hpa];simp only;rw [hst,hgl];simp only;rw [hr]);have hmd:=wK ⟨⟨.up lf,s⟩,[]⟩ last.nd rest value;rw [hr]at hmd;simp only [Dt]at hmd;clear hst hr hla hgl hne;have t1:((value.toNat:Int)==0)=false:=by
  rw [beq_eq_false_iff_ne];intro e;exact hv0 (Eo.1 (by simp;omega))
 clear h h16 hv0 hpa hkl ok FT J7 hpre;go_enter Tryz.func71,Tryz.ntmps71
 go_wp2_with fail
 refine HA.out.mono ?_;rintro e w1⟨rfl,rfl⟩;clear HA
 go_wp2_with fail
 refine Tu.out.mono ?_;rintro e w1⟨hb1,hp1⟩;rw [Zz.out]at hp1;obtain⟨vw,A,c,rfl,J6,hrs,hrc⟩:=hp1;have HW1:=Aa J6;have HR1:=Aa hrs;have HB1:=Aa hb1;clear J6 hrs hb1 Tu
 go_wp2_with fail
 refine(Hm HW1.out (by omega) wJ.out HR1.out.1 (by omega)).mono ?_;rintro e w2⟨hb2,hp2⟩;rw [OO.out]at hp2;replace hp2:e= .returned (.tuple #[.agg #[.slice none 0 0,.int .u64 0,.slice none 0 0,.slice none 0 0,.int .i64 0,.int .u8 0,.int .i64 0],.bool false]):=hp2;subst hp2;obtain⟨g,cv,rfl,hcv,hbg,hgw,hat⟩:=HW1.out.at hw0;obtain⟨a,b,c',d',hwc⟩:=hat (way.length-1) (by omega);rw [show way[way.length-1]'(by omega)=last from HLa.out]at hwc;have HB2:=Aa (HB1.out.trans (hb2.mono HB1.out.size));obtain⟨w3,hw3,Gh, -⟩:=FB w2 214 [.slice none 0 0,.int .u64 0,.slice none 0 0,.slice none 0 0,.int .i64 0,.int .u8 0,.int .i64 0];obtain⟨w4,hw4,Gz, -⟩:=FB w3 219 [Aw x,.slice none 0 0];have hs3:w3.heap.size=w2.heap.size+1:=by rw [hw3];simp
 have HB3:=Aa (HB2.out.trans (Gh.mono HB2.out.size));have HB4:=Aa (HB3.out.trans (Gz.mono HB3.out.size));have hsz:=HB3.out.size;have hJ:=jy (q:=⟨.up lf,s⟩) (HX.out.below HB4.out) hw4 (fun b hb=>by have:=LG.out b hb;omega) (by omega) (by have:=jB.out;omega);have HGj:Hid (∀b,(fun b=>F b\/b=w3.heap.size) b->F b\/w.heap.size<=b):=Aa (fun b hb=>hb.imp id (fun e=>by omega));have Qj:Below w1.heap.size w1 w3:=hb2.trans (Gh.mono hb2.size);have jC:=Qb.below HR1.out Qj;have t0:((way.length:Int)==0)=false:=by rw [beq_eq_false_iff_ne];omega
 obtain⟨m,hm⟩:∃m,m=way.length-1:=⟨_,rfl⟩;have hwm:IntKind.i64.wrap ((way.length:Int) -1)=(m:Int):=(wrap64 _ (by omega) (by omega)).trans (by omega);have hx1:decide ((m:Int)<(way.length:Int))=true:=decide_eq_true (by omega);have hx2:m<way.length:=by omega
 have hx3:(m:Int)<(way.length:Int):=by omega
 have XG:Below w1.heap.size w1 w4:=Qj.trans (Gz.mono Qj.size);obtain⟨A1,p1,A2,p2,A3,p3,e,o1,o2,o3⟩:=hwc.nd;simp only [Value.agg.injEq]at e;simp at e;obtain⟨rfl,rfl,rfl,rfl⟩:=e;have hz:∀j v,[Value.slice A1 last.nd.pre.length p1,.int .u64 (last.nd.val.toNat:Int),.slice A2 last.nd.labels.length p2,.slice A3 last.nd.kids.length p3,.int .i64 last.off,.int .u8 (last.label.toNat:Int),.int .i64 last.word][j]? =some v->w4.cell? ⟨g,m*7+j,none⟩=some v:=fun j v hj=>by
  rw [XG.cell (p:=⟨g,m*7+j,none⟩) hgw,Nat.mul_comm,hm];exact hwc.cells j v hj
 have z0:=hz 0 _ rfl;have z1:=hz 1 _ rfl;have z2:=hz 2 _ rfl;have z3:=hz 3 _ rfl;have z4:=hz 4 _ rfl;have z5:=hz 5 _ rfl;have z6:=hz 6 _ rfl;rw [Nat.add_zero]at z0;have hnr:Zx w4 (fun b=>F b\/b=w3.heap.size) (.slice A1 last.nd.pre.length p1) (.int .u64 (last.nd.val.toNat:Int)) (.slice A2 last.nd.labels.length p2) (.slice A3 last.nd.kids.length p3) last.nd:=by
  have q0:Zx w2 F _ _ _ _ last.nd:=Zx.Aqq (hwc.nd.below hb2) (fun b hb _ hf=>by have:=LG.out b hf;omega);have q1:Zx w2 (fun b=>F b\/b=w3.heap.size) _ _ _ _ last.nd:=q0.mono (fun b hb hg=>hg.elim id (fun e=>by first| omega| (simp only at e;omega)));exact q1.moved (AO.of_below (Gh.trans (Gz.mono Gh.size)))
 have hrd:IK w4 (fun b=>F b\/b=w3.heap.size) A rest.length (rest.map bv):=by
  refine IK.below (w:=w3) ⟨jC.1,fun hn a ea hg=> ?_⟩ Gz;obtain⟨rb,ro,e',hrb,_⟩:=jC.1.2 hn;rw [e']at ea;injection ea with ea
  subst ea;rcases hg with hg| hg
  ·have:=(jC.2 _ _ e').1;have:=LG.out _ hg;simp only at this;omega
  ·simp only at hg;omega
 obtain⟨w5,hw5,O7,B5⟩:=FB w4 214 [.slice A1 last.nd.pre.length p1,.int .u64 (last.nd.val.toNat:Int),.slice A2 last.nd.labels.length p2,.slice A3 last.nd.kids.length p3,.int .i64 last.off,.int .u8 (last.label.toNat:Int),.int .i64 last.word];have hpl:=o5.out;have Aq7:=((Bo _).1 hpl.right).1;have Aq8:=hpl.kids;have Aq9:=hpl.labels;have HGr:=Afx (hJ.below O7) last.nd A1 A2 A3 p1 p2 p3 last.off last.word last.label rest A c value (hnr.moved (AO.of_below O7)) (by omega) (by omega) (by omega) (hrd.below O7) hrc (by omega) (by simp) HNe.out;rw [HR.out]at HGr;have HGr:=Aa HGr;have HJl:=Aa hJ.lt;have HW3:=Aa hw3;have aA:=Aa hw4;have HW5:=Aa hw5;have OC:=Aa hs3;have hs4:w4.heap.size=w2.heap.size+2:=by rw [hw4];simp;omega
 have kN:=Aa hs4;have Jy:=Aa (HB4.out.trans (O7.mono HB4.out.size));have yQ:=Aa B5;rw [hw4,hw3]at z0 z1 z2 z3 z4 z5 z6;clear hb2 Gh Gz hs3 hs4 hJ hrd jC Qj XG hw3 hw4 hw5 O7 B5 hz hwc hat o1 o2 o3 hnr hm hpl
 go_wp2_with fail
 rw [<-HW3.out,<-aA.out,<-HW5.out,<-OC.out];refine HGr.out.mono ?_;rintro e w6⟨rfl,G6,hj6,Vu⟩;have B6:=yQ.out.touch Vu.touch (fun hg=>by have:=HJl.out _ hg;omega);obtain⟨w7,hw7,Ams, -⟩:=FB w6 3 [.int .i64 last.off];have B7:CG w7 w6.heap.size 3 [zv last.off]:=hw7▸heap_alloc_new _ _;have hO:IK w7 G6 (some ⟨w6.heap.size,0,none⟩) 1 ([last.off].map zv):=⟨B7.rd,fun _ a ea hg=>by
  injection ea with ea
  subst ea;exact absurd (hj6.lt _ hg) (Nat.lt_irrefl _)⟩
 have hfin:Calls Tryz.prog 115 #[Aw w3.heap.size,.int .i64 er,.int .i64 last.word,.int .u64 (name.toNat:Int),.slice (some ⟨w6.heap.size,0,none⟩) 1 1] w7 (Qg (Fa j1 er last.word name [last.off]) w3.heap.size w3.heap.size x d p L j1 G6 w7):=by
  obtain⟨jw,oO,hjl⟩:=o5.out.word;obtain⟨o,ho,hol⟩:=o5.out.off;exact Qh (hj6.below Ams) er last.word jw oO hjl name _ 1 [last.off] hO (fun o' ho'=>by rw [List.mem_singleton]at ho';omega) (by simp) (by show j1.made.length<=1000;omega)
 have HFin:=Aa hfin;have Ya:=Aa (Vu.trans (AO.of_below Ams));have HW7:=Aa hw7;have KO:=Aa B6;clear z0 z1 z2 z3 z4 z5 z6 Vu hj6 Ams B7 hO hfin hw7 HGr B6;obtain⟨y0,y1,y2,y3,y4,y5,y6⟩:=ED KO.out;rw [kN.out]at y0 y1 y2 y3 y4 y5 y6;rw [OC.out]
 go_wp2_with fail
 rw [<-HW7.out,<-OC.out];refine HFin.out.mono ?_;rintro e w8⟨rfl,G8,hj8,VO⟩;have HD:=Aa (hj8.done (Ya.out.trans VO) Jy.out HGj.out);clear hj8 VO HFin
 go_wp2_with fail
 go_ret;refine⟨by rw [HP.out];rfl,?_⟩;rw [HP.out];exact HD.out
theorem wL(h:IX (.up (MU lf)) w x d p L s F)(key:ByteArray)(hk:key.size<=1000)(value:UInt64):
 Calls Tryz.prog 71 #[Aw x,.string key,.int .u64 (value.toNat:Int)] w (Rl (PS ⟨.up lf,s⟩ key.data.toList value) x d p L F w):=by
 by_cases h16:16<key.size
 ·exact VS h key hk value (.inl h16)
 ·by_cases hv0:value=0
  ·exact VS h key hk value (.inr (.inl hv0))
  ·cases hp:FQ s key.data.toList with
   | none=>exact VS h key hk value (.inr (.inr hp))
   | some wr=>
     obtain⟨way,rest⟩:=wr;cases hst:CX way rest with
     | some last=>exact Ab1 h key h16 value hv0 way rest hp last hst
     | none=>
       by_cases hw0:way=[]
       ·exact Ab2 h key h16 value hv0 way rest hp hw0 hst
       ·exact Afz h key h16 value hv0 way rest hp hw0 hst
theorem VT(h:Ix w x d p L s F)(key:ByteArray)(hk:key.size<=1000)(value:UInt64):
 Calls Tryz.prog 71 #[Aw x,.string key,.int .u64 (value.toNat:Int)] w (jA (KW s key.data.toList value) x d p L F w):=by
 have:=wL (lf:= -1) h key hk value;rw [Ae3]at this;exact this
end
section
variable{len:Mode}{w:World}{x d p L:Nat}{s:St}{F:Nat->Prop}
def GetPost(r:UInt64×Int)(w:World)(e:Ending)(w':World):Prop:=e= .returned (.tuple #[.int .u64 (r.1.toNat:Int),.int .i64 r.2])/\Below w.heap.size w w'
def Ajd(r:St×UInt64×Int)(x d p L:Nat)(F:Nat->Prop)(w:World)(e:Ending)(w':World):Prop:=
 e= .returned (.tuple #[.int .u64 (r.2.1.toNat:Int),.int .i64 r.2.2])/\∃F',Ix w' x d p L r.1 F'/\AO F F' w w'
def ZE(r:Ms×UInt64×Int)(x d p L:Nat)(F:Nat->Prop)(w:World)(e:Ending)(w':World):Prop:=
 e= .returned (.tuple #[.int .u64 (r.2.1.toNat:Int),.int .i64 r.2.2])/\∃F',IxM w' x d p L r.1 F'/\AO F F' w w'
theorem VU (h : IX len w x d p L s F) (key : ByteArray) (hk : key.size <= 1000) :
    Calls Tryz.prog 140 #[Aw x, .string key] w (GetPost (GI s key.data.toList) w) := by
  have HX := Aa h
  have HA := Aa (JV h key (by omega))
  have hkl := Qi key
  by_cases h16 : 16 < key.size
  · rw [if_pos h16] at HA
    have HP : Hid (GI s key.data.toList = (0, 3)) := Aa (by unfold GI; rw [hkl, if_pos h16])
    clear h hkl
    go_enter Tryz.func140, Tryz.ntmps140
    go_wp2_with fail
    refine HA.out.mono ?_
    rintro e w1 ⟨rfl, rfl⟩
    go_wp2_with fail
    go_ret2
    exact ⟨by rw [HP.out]; rfl, (Below.refl _ _)⟩
  · rw [if_neg h16] at HA
    obtain ⟨l0, l1, ok, FT⟩ := h.L0
    have Afy : 16 <= L := by have := ok.fits; have := ok.BI; omega
    have Tu := Aa (JM h key (by omega))
    cases hpa : FQ s key.data.toList with
    | none =>
      have HP : Hid (GI s key.data.toList = (0, 5)) := Aa (by unfold GI; rw [hkl, if_neg h16, hpa])
      have Zz := Aa hpa
      clear h hkl ok FT hpa
      go_enter Tryz.func140, Tryz.ntmps140
      go_wp2_with fail
      refine HA.out.mono ?_
      rintro e w1 ⟨rfl, rfl⟩
      clear HA
      go_wp2_with fail
      refine Tu.out.mono ?_
      rintro e w1 ⟨hb1, hp1⟩
      rw [Zz.out] at hp1
      replace hp1 : e = .returned (.tuple #[.slice none 0 0, .slice none 0 0, .int .i64 5]) := hp1
      subst hp1
      have HB1 := Aa hb1
      clear Tu hb1
      go_wp2_with fail
      go_ret2
      exact ⟨by rw [HP.out]; rfl, HB1.out⟩
    | some wr =>
      obtain ⟨way, rest⟩ := wr
      obtain ⟨J7, hrl⟩ := SB ok (by omega) FT hpa
      have hwl := Ph hpa
      rw [hkl] at hrl hwl
      replace hrl : rest.length <= 32 := by omega
      replace hwl : way.length <= 33 := by omega
      have hpre : ∀ pl ∈ way, pl.nd.pre.length <= 1000 := fun pl hm => by have := ((Bo _).1 (J7 pl hm).right).1; omega
      have HPk := Aa J7
      have wJ := Aa hpre
      have Zz := Aa hpa
      have hxl := h.box.lt
      have jB := Aa h.sys.tabs.lt
      have LG := Aa h.sys.lt
      cases hst : CX way rest with
      | none =>
        have HP : Hid (GI s key.data.toList = (0, 7)) := Aa (by unfold GI; rw [hkl, if_neg h16, hpa]; simp only; rw [hst])
        have OO := Aa hst
        clear h hkl ok FT hpa hst J7 hpre
        go_enter Tryz.func140, Tryz.ntmps140
        go_wp2_with fail
        refine HA.out.mono ?_
        rintro e w1 ⟨rfl, rfl⟩
        clear HA
        go_wp2_with fail
        refine Tu.out.mono ?_
        rintro e w1 ⟨hb1, hp1⟩
        rw [Zz.out] at hp1
        obtain ⟨vw, A, c, rfl, J6, hrs, hrc⟩ := hp1
        have HW1 := Aa J6
        have HR1 := Aa hrs
        have HB1 := Aa hb1
        clear J6 hrs hb1 Tu
        go_wp2_with fail
        refine (Hm HW1.out (by omega) wJ.out HR1.out.1 (by omega)).mono ?_
        rintro e w2 ⟨hb2, hp2⟩
        rw [OO.out] at hp2
        replace hp2 : e = .returned (.tuple #[.agg #[.slice none 0 0, .int .u64 0, .slice none 0 0, .slice none 0 0, .int .i64 0, .int .u8 0, .int .i64 0], .bool false]) := hp2
        subst hp2
        have HB2 := Aa (HB1.out.trans (hb2.mono HB1.out.size))
        clear hb2
        have HB3 : Hid (Below w.heap.size w (w2.alloc (.cells #[.slice none 0 0, .int .u64 0, .slice none 0 0, .slice none 0 0, .int .i64 0, .int .u8 0, .int .i64 0] 214))) := Aa (HB2.out.alloc HB2.out.size _)
        go_wp2_with fail
        go_ret2
        exact ⟨by rw [HP.out]; rfl, HB3.out⟩
      | some last =>
        have hmem : last ∈ way := by
          unfold CX at hst
          split at hst
          · cases hst
          · rename_i l hl
            split at hst
            · injection hst with hst; subst hst; exact MF hl
            · cases hst
        have o5 := Aa (J7 last hmem)
        have OO := Aa hst
        by_cases hv0 : last.nd.val = 0
        · have HP : Hid (GI s key.data.toList = (0, 7)) := Aa (by unfold GI; rw [hkl, if_neg h16, hpa]; simp only; rw [hst]; simp only; rw [if_pos hv0])
          have t1 : ((last.nd.val.toNat : Int) == 0) = true := by rw [hv0]; rfl
          clear h hkl ok FT hpa hst J7 hpre hmem
          go_enter Tryz.func140, Tryz.ntmps140
          go_wp2_with fail
          refine HA.out.mono ?_
          rintro e w1 ⟨rfl, rfl⟩
          clear HA
          go_wp2_with fail
          refine Tu.out.mono ?_
          rintro e w1 ⟨hb1, hp1⟩
          rw [Zz.out] at hp1
          obtain ⟨vw, A, c, rfl, J6, hrs, hrc⟩ := hp1
          have HW1 := Aa J6
          have HR1 := Aa hrs
          have HB1 := Aa hb1
          clear J6 hrs hb1 Tu
          go_wp2_with fail
          refine (Hm HW1.out (by omega) wJ.out HR1.out.1 (by omega)).mono ?_
          rintro e w2 ⟨hb2, hp2⟩
          rw [OO.out] at hp2
          obtain ⟨a, b, c', d', rfl, hnd⟩ := hp2
          obtain ⟨A1, m1, A2, m2, A3, m3, e, o1, o2, o3⟩ := hnd
          simp only [Value.agg.injEq] at e
          simp at e
          obtain ⟨rfl, rfl, rfl, rfl⟩ := e
          have HB2 := Aa (HB1.out.trans (hb2.mono HB1.out.size))
          obtain ⟨W3, hW3, hb3, B3⟩ := FB w2 214 [.slice A1 last.nd.pre.length m1, .int .u64 (last.nd.val.toNat : Int), .slice A2 last.nd.labels.length m2, .slice A3 last.nd.kids.length m3, .int .i64 last.off, .int .u8 (last.label.toNat : Int), .int .i64 last.word]
          have HB3 := Aa (HB2.out.trans (hb3.mono HB2.out.size))
          have HW3 := Aa hW3
          obtain ⟨y0, y1, y2, y3, y4, y5, y6⟩ := ED B3
          rw [hW3] at y0 y1 y2 y3 y4 y5 y6
          rw [hW3] at HB3
          clear o1 o2 o3 hb2 hb3 B3 hW3 HW3
          go_wp2_with fail
          go_ret2
          have HBz := HB3.out
          rw [hv0] at HBz
          exact ⟨by rw [HP.out]; rfl, HBz⟩
        · have t1 : ((last.nd.val.toNat : Int) == 0) = false := by
            rw [beq_eq_false_iff_ne]; intro e; exact hv0 (Eo.1 (by simp; omega))
          have HP : Hid (GI s key.data.toList = (last.nd.val, 0)) := Aa (by unfold GI; rw [hkl, if_neg h16, hpa]; simp only; rw [hst]; simp only; rw [if_neg hv0])
          clear h hkl ok FT hpa hst J7 hpre hmem
          go_enter Tryz.func140, Tryz.ntmps140
          go_wp2_with fail
          refine HA.out.mono ?_
          rintro e w1 ⟨rfl, rfl⟩
          clear HA
          go_wp2_with fail
          refine Tu.out.mono ?_
          rintro e w1 ⟨hb1, hp1⟩
          rw [Zz.out] at hp1
          obtain ⟨vw, A, c, rfl, J6, hrs, hrc⟩ := hp1
          have HW1 := Aa J6
          have HR1 := Aa hrs
          have HB1 := Aa hb1
          clear J6 hrs hb1 Tu
          go_wp2_with fail
          refine (Hm HW1.out (by omega) wJ.out HR1.out.1 (by omega)).mono ?_
          rintro e w2 ⟨hb2, hp2⟩
          rw [OO.out] at hp2
          obtain ⟨a, b, c', d', rfl, hnd⟩ := hp2
          obtain ⟨A1, m1, A2, m2, A3, m3, e, o1, o2, o3⟩ := hnd
          simp only [Value.agg.injEq] at e
          simp at e
          obtain ⟨rfl, rfl, rfl, rfl⟩ := e
          have HB2 := Aa (HB1.out.trans (hb2.mono HB1.out.size))
          obtain ⟨W3, hW3, hb3, B3⟩ := FB w2 214 [.slice A1 last.nd.pre.length m1, .int .u64 (last.nd.val.toNat : Int), .slice A2 last.nd.labels.length m2, .slice A3 last.nd.kids.length m3, .int .i64 last.off, .int .u8 (last.label.toNat : Int), .int .i64 last.word]
          have HB3 := Aa (HB2.out.trans (hb3.mono HB2.out.size))
          have HW3 := Aa hW3
          obtain ⟨y0, y1, y2, y3, y4, y5, y6⟩ := ED B3
          rw [hW3] at y0 y1 y2 y3 y4 y5 y6
          rw [hW3] at HB3
          clear o1 o2 o3 hb2 hb3 B3 hW3 HW3
          go_wp2_with fail
          go_ret2
          exact ⟨by rw [HP.out]; rfl, HB3.out⟩
theorem wM {lf : Int} (h : IX (.up (MU lf)) w x d p L s F) (key : ByteArray) (hk : key.size <= 1000) (hkids : ∀ way rest last, FQ s key.data.toList = some (way, rest) -> CX way rest = some last -> last.nd.val ≠ 0 -> ¬ 16 < key.size -> ¬ last.nd.kids.length = 0) :
    Calls Tryz.prog 70 #[Aw x, .string key] w (ZE (Rf ⟨.up lf, s⟩ key.data.toList) x d p L F w) := by
  have HX := Aa h
  have HA := Aa (JV h key (by omega))
  have hkl := Qi key
  by_cases h16 : 16 < key.size
  · rw [if_pos h16] at HA
    have HP : Hid (Rf ⟨.up lf, s⟩ key.data.toList = (⟨.up lf, s⟩, 0, 3)) := Aa (by unfold Rf; rw [hkl, if_pos h16])
    clear h hkl hkids
    go_enter Tryz.func70, Tryz.ntmps70
    go_wp2_with fail
    refine HA.out.mono ?_
    rintro e w1 ⟨rfl, rfl⟩
    go_wp2_with fail
    go_ret2
    refine ⟨by rw [HP.out]; rfl, F, ?_, AO.of_below (Below.refl _ _)⟩
    rw [HP.out]
    exact HX.out.below (Below.refl _ _)
  · rw [if_neg h16] at HA
    obtain ⟨l0, l1, ok, FT⟩ := h.L0
    have Afy : 16 <= L := by have := ok.fits; have := ok.BI; omega
    have Tu := Aa (JM h key (by omega))
    cases hpa : FQ s key.data.toList with
    | none =>
      have HP : Hid (Rf ⟨.up lf, s⟩ key.data.toList = (⟨.up lf, s⟩, 0, 5)) := Aa (by unfold Rf; rw [hkl, if_neg h16, hpa])
      have Zz := Aa hpa
      clear h hkl ok FT hpa hkids
      go_enter Tryz.func70, Tryz.ntmps70
      go_wp2_with fail
      refine HA.out.mono ?_
      rintro e w1 ⟨rfl, rfl⟩
      clear HA
      go_wp2_with fail
      refine Tu.out.mono ?_
      rintro e w1 ⟨hb1, hp1⟩
      rw [Zz.out] at hp1
      replace hp1 : e = .returned (.tuple #[.slice none 0 0, .slice none 0 0, .int .i64 5]) := hp1
      subst hp1
      have HB1 := Aa hb1
      clear Tu hb1
      go_wp2_with fail
      go_ret2
      refine ⟨by rw [HP.out]; rfl, F, ?_, AO.of_below HB1.out⟩
      rw [HP.out]
      exact HX.out.below HB1.out
    | some wr =>
      obtain ⟨way, rest⟩ := wr
      obtain ⟨J7, hrl⟩ := SB ok (by omega) FT hpa
      have hwl := Ph hpa
      rw [hkl] at hrl hwl
      replace hrl : rest.length <= 32 := by omega
      replace hwl : way.length <= 33 := by omega
      have hpre : ∀ pl ∈ way, pl.nd.pre.length <= 1000 := fun pl hm => by have := ((Bo _).1 (J7 pl hm).right).1; omega
      have HPk := Aa J7
      have wJ := Aa hpre
      have Zz := Aa hpa
      have hxl := h.box.lt
      have jB := Aa h.sys.tabs.lt
      have LG := Aa h.sys.lt
      cases hst : CX way rest with
      | none =>
        have HP : Hid (Rf ⟨.up lf, s⟩ key.data.toList = (⟨.up lf, s⟩, 0, 7)) := Aa (by unfold Rf; rw [hkl, if_neg h16, hpa]; simp only; rw [hst])
        have OO := Aa hst
        clear h hkl ok FT hpa hst J7 hpre hkids
        go_enter Tryz.func70, Tryz.ntmps70
        go_wp2_with fail
        refine HA.out.mono ?_
        rintro e w1 ⟨rfl, rfl⟩
        clear HA
        go_wp2_with fail
        refine Tu.out.mono ?_
        rintro e w1 ⟨hb1, hp1⟩
        rw [Zz.out] at hp1
        obtain ⟨vw, A, c, rfl, J6, hrs, hrc⟩ := hp1
        have HW1 := Aa J6
        have HR1 := Aa hrs
        have HB1 := Aa hb1
        clear J6 hrs hb1 Tu
        go_wp2_with fail
        refine (Hm HW1.out (by omega) wJ.out HR1.out.1 (by omega)).mono ?_
        rintro e w2 ⟨hb2, hp2⟩
        rw [OO.out] at hp2
        replace hp2 : e = .returned (.tuple #[.agg #[.slice none 0 0, .int .u64 0, .slice none 0 0, .slice none 0 0, .int .i64 0, .int .u8 0, .int .i64 0], .bool false]) := hp2
        subst hp2
        have HB2 := Aa (HB1.out.trans (hb2.mono HB1.out.size))
        clear hb2
        have HB3 : Hid (Below w.heap.size w (w2.alloc (.cells #[.slice none 0 0, .int .u64 0, .slice none 0 0, .slice none 0 0, .int .i64 0, .int .u8 0, .int .i64 0] 214))) := Aa (HB2.out.alloc HB2.out.size _)
        go_wp2_with fail
        go_ret2
        refine ⟨by rw [HP.out]; rfl, F, ?_, AO.of_below HB3.out⟩
        rw [HP.out]
        exact HX.out.below HB3.out
      | some last =>
        have hmem : last ∈ way := by
          unfold CX at hst
          split at hst
          · cases hst
          · rename_i l hl
            split at hst
            · injection hst with hst; subst hst; exact MF hl
            · cases hst
        have o5 := Aa (J7 last hmem)
        have OO := Aa hst
        by_cases hv0 : last.nd.val = 0
        · have HP : Hid (Rf ⟨.up lf, s⟩ key.data.toList = (⟨.up lf, s⟩, 0, 7)) := Aa (by unfold Rf; rw [hkl, if_neg h16, hpa]; simp only; rw [hst]; simp only; rw [if_pos hv0])
          have t1 : ((last.nd.val.toNat : Int) == 0) = true := by rw [hv0]; rfl
          clear h hkl ok FT hpa hst J7 hpre hmem hkids
          go_enter Tryz.func70, Tryz.ntmps70
          go_wp2_with fail
          refine HA.out.mono ?_
          rintro e w1 ⟨rfl, rfl⟩
          clear HA
          go_wp2_with fail
          refine Tu.out.mono ?_
          rintro e w1 ⟨hb1, hp1⟩
          rw [Zz.out] at hp1
          obtain ⟨vw, A, c, rfl, J6, hrs, hrc⟩ := hp1
          have HW1 := Aa J6
          have HR1 := Aa hrs
          have HB1 := Aa hb1
          clear J6 hrs hb1 Tu
          go_wp2_with fail
          refine (Hm HW1.out (by omega) wJ.out HR1.out.1 (by omega)).mono ?_
          rintro e w2 ⟨hb2, hp2⟩
          rw [OO.out] at hp2
          obtain ⟨a, b, c', d', rfl, hnd⟩ := hp2
          obtain ⟨A1, m1, A2, m2, A3, m3, e, o1, o2, o3⟩ := hnd
          simp only [Value.agg.injEq] at e
          simp at e
          obtain ⟨rfl, rfl, rfl, rfl⟩ := e
          have HB2 := Aa (HB1.out.trans (hb2.mono HB1.out.size))
          obtain ⟨W3, hW3, hb3, B3⟩ := FB w2 214 [.slice A1 last.nd.pre.length m1, .int .u64 (last.nd.val.toNat : Int), .slice A2 last.nd.labels.length m2, .slice A3 last.nd.kids.length m3, .int .i64 last.off, .int .u8 (last.label.toNat : Int), .int .i64 last.word]
          have HB3 := Aa (HB2.out.trans (hb3.mono HB2.out.size))
          have HW3 := Aa hW3
          obtain ⟨y0, y1, y2, y3, y4, y5, y6⟩ := ED B3
          rw [hW3] at y0 y1 y2 y3 y4 y5 y6
          rw [hW3] at HB3
          clear o1 o2 o3 hb2 hb3 B3 hW3 HW3
          go_wp2_with fail
          go_ret2
          have HBz := HB3.out
          rw [hv0] at HBz
          refine ⟨by rw [HP.out]; rfl, F, ?_, AO.of_below HBz⟩
          rw [HP.out]
          exact HX.out.below HBz
        · have t1 : ((last.nd.val.toNat : Int) == 0) = false := by
            rw [beq_eq_false_iff_ne]; intro e; exact hv0 (Eo.1 (by simp; omega))
          have hk0 := hkids way rest last hpa hst hv0 h16
          obtain ⟨⟨q2, vc⟩, hvr⟩ : ∃ R, NF ⟨.up lf, s⟩ last 0 = R := ⟨_, rfl⟩
          have HVr := Aa hvr
          have HP : Hid (Rf ⟨.up lf, s⟩ key.data.toList = if vc = 0 then (q2, last.nd.val, 0) else (q2, 0, vc)) := Aa (by unfold Rf; rw [hkl, if_neg h16]; simp only [hpa, hst, if_neg hv0, if_neg hk0, if_true, hvr])
          clear hvr
          have t2 : ((last.nd.kids.length : Int) == 0) = false := by rw [beq_eq_false_iff_ne]; omega
          clear h hkl ok FT hpa hst J7 hpre hmem hkids
          go_enter Tryz.func70, Tryz.ntmps70
          go_wp2_with fail
          refine HA.out.mono ?_
          rintro e w1 ⟨rfl, rfl⟩
          clear HA
          go_wp2_with fail
          refine Tu.out.mono ?_
          rintro e w1 ⟨hb1, hp1⟩
          rw [Zz.out] at hp1
          obtain ⟨vw, A, c, rfl, J6, hrs, hrc⟩ := hp1
          have HW1 := Aa J6
          have HR1 := Aa hrs
          have HB1 := Aa hb1
          clear J6 hrs hb1 Tu
          go_wp2_with fail
          refine (Hm HW1.out (by omega) wJ.out HR1.out.1 (by omega)).mono ?_
          rintro e w2 ⟨hb2, hp2⟩
          rw [OO.out] at hp2
          obtain ⟨a, b, c', d', rfl, hnd⟩ := hp2
          obtain ⟨A1, m1, A2, m2, A3, m3, e, o1, o2, o3⟩ := hnd
          simp only [Value.agg.injEq] at e
          simp at e
          obtain ⟨rfl, rfl, rfl, rfl⟩ := e
          have HB2 := Aa (HB1.out.trans (hb2.mono HB1.out.size))
          obtain ⟨W3, hW3, hb3, B3⟩ := FB w2 214 [.slice A1 last.nd.pre.length m1, .int .u64 (last.nd.val.toNat : Int), .slice A2 last.nd.labels.length m2, .slice A3 last.nd.kids.length m3, .int .i64 last.off, .int .u8 (last.label.toNat : Int), .int .i64 last.word]
          have HB3 := Aa (HB2.out.trans (hb3.mono HB2.out.size))
          have HV := Qd (q := ⟨.up lf, s⟩) (HX.out.below HB3.out) last (o5.out) A1 A2 A3 last.nd.pre.length m1 last.nd.labels.length m2 last.nd.kids.length m3 0
          rw [HVr.out] at HV
          have HV := Aa HV
          have HW3 := Aa hW3
          obtain ⟨y0, y1, y2, y3, y4, y5, y6⟩ := ED B3
          have Oi := Aa B3
          rw [hW3] at y0 y1 y2 y3 y4 y5 y6
          clear o1 o2 o3 hb2 hb3 B3 hW3
          go_wp2_with fail
          rw [<- HW3.out]
          refine HV.out.mono ?_
          rintro e w4 ⟨rfl, F4, hx4, hm4⟩
          have HF := Aa (And.intro hx4 ((AO.of_below (F := F) HB3.out).trans hm4))
          have B4 := Oi.out.touch hm4.touch (fun hg => by have := LG.out _ hg; have := HB2.out.size; omega)
          obtain ⟨z0, z1, z2, z3, z4, z5, z6⟩ := ED B4
          clear hx4 hm4 y0 y1 y2 y3 y4 y5 y6 HV HW3 B4 Oi
          by_cases hvc : vc = 0
          · subst hvc
            rw [if_pos rfl] at HP
            go_wp2_with fail
            go_ret2
            refine ⟨by rw [HP.out]; rfl, F4, ?_, HF.out.2⟩
            rw [HP.out]
            exact HF.out.1
          · rw [if_neg hvc] at HP
            have t8 : (vc == 0) = false := by rw [beq_eq_false_iff_ne]; exact hvc
            have t9 : (vc != 0) = true := by rw [bne_iff_ne]; exact hvc
            clear hvc
            go_wp2_with fail
            go_ret2
            refine ⟨by rw [HP.out]; rfl, F4, ?_, HF.out.2⟩
            rw [HP.out]
            exact HF.out.1
end
