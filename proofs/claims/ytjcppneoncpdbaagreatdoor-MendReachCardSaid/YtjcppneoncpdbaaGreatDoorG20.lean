import Derived.Test.YtjcppneoncpdbaaGreatDoorG19
set_option maxHeartbeats 32000000
set_option maxRecDepth 100000
open Go.Lib renaming hid->Aa
open List renaming mem_of_getLast?->LV,length_nil->Dy
open UInt64 renaming toNat_inj->DL
open Nat renaming le_refl->Ae
namespace Go.Proofs.YtjcppneoncpdbaaGreatDoor
open Go.RowKit
theorem Ym{s:St}:∀(f:Nat)(name:UInt64)(rest:List UInt8)(label:UInt8)(word:Int)(way Zd:List Pl)(rest':List UInt8),Ee s f name rest label word way=some (Zd,rest')->Zd.length<=way.length+f
 | 0,name,rest,label,word,way,Zd,rest',h=>by
   rw [Ee]at h;injection h with h
   injection h with h1 h2
   subst h1;omega
 | f+1,name,rest,label,word,way,Zd,rest',h=>by
   rw [Ee]at h;split at h
   ·injection h with h
    injection h with h1 h2
    subst h1;omega
   ·split at h
    ·cases h
    ·split at h
     ·injection h with h
      injection h with h1 h2
      subst h1;simp
     ·split at h
      ·injection h with h
       injection h with h1 h2
       subst h1;simp
      ·have:=Ym f _ _ _ _ _ _ _ h;simp at this;omega
theorem OH{s:St}{key:List UInt8}{way:List Pl}{rest:List UInt8}(h:Gi s key=some (way,rest)):way.length<=2*key.length+1:=by
 have:=Ym _ _ _ _ _ _ _ _ h;simpa using this
theorem PI.below{w w':World}{base:Nat}{A:Option Addr}{l:List UInt8}(h:PI w base A l)(k:Below w.heap.size w w'):PI w' base A l:=(CQ.of_below k).rs h
section
variable{w:World}{x d p L:Nat}{s:St}{F:Nat->Prop}
theorem xJ(h:Ix w x d p L s F)(key:ByteArray)(h16:¬16<key.size)(value:UInt64)(hv0:value≠0)(way:List Pl)(rest:List UInt8)(hpa:Gi s key.data.toList=some (way,rest))(last:Pl)(hst:Dj way rest=some last):
 Calls Tryz.prog 93 #[.pointer (some ⟨x,0,none⟩),.string key,.int .u64 (value.toNat:Int)] w (Jw (GX s key.data.toList value) x d p L F w):=by
 have HA:=Aa (JH h key (by omega));rw [if_neg h16]at HA;have HX:=Aa h;have hkl:=PM key;obtain⟨l0,l1,ok,Fp⟩:=h.L0;have Abp:16<=L:=by have:=ok.fits;have:=ok.BM;omega
 obtain⟨Jr,hrl⟩:=QZ ok (by omega) Fp hpa;have hwl:=OH hpa;rw [hkl]at hrl hwl;replace hrl:rest.length<=32:=by omega
 replace hwl:way.length<=33:=by omega
 have hpre:∀pl∈way,pl.nd.pre.length<=1000:=fun pl hm=>by have:=((Bg _).1 (Jr pl hm).right).1;omega
 have zy:=Aa Jr;have qJ:=Aa hpre;have RU:=Aa (J7 h key (by omega));have Yc:=Aa hpa;have hxl:=h.box.lt;have zD:=Aa h.sys.tabs.lt;have Ha:=Aa h.sys.lt;have RS:=Aa hst;have hmem:last∈way:=by
  unfold Dj at hst;split at hst
  ·cases hst
  ·rename_i l hl;split at hst
   ·injection hst with hst;subst hst;exact LV hl
   ·cases hst
 have jP:=Aa (Jr last hmem);have HP:Hid (GX s key.data.toList value=(JU s last value,0)):=Aa (by unfold GX;rw [hkl,if_neg h16,if_neg hv0,hpa];simp only;rw [hst]);clear hst hmem;have t1:((value.toNat:Int)==0)=false:=by
  rw [beq_eq_false_iff_ne];intro e;exact hv0 (DL.1 (by simp;omega))
 clear h h16 hv0 hpa hkl ok Fp Jr hpre;go_enter Tryz.func93,Tryz.ntmps93
 go_wp2_with fail
 refine HA.out.mono ?_;rintro e w1⟨rfl,rfl⟩;clear HA
 go_wp2_with fail
 refine RU.out.mono ?_;rintro e w1⟨hb1,hp1⟩;rw [Yc.out]at hp1;obtain⟨vw,A,c,rfl,Jq,hrs,hrc⟩:=hp1;have HW1:=Aa Jq;have HR1:=Aa hrs;have HB1:=Aa hb1;clear Jq hrs hb1 RU
 go_wp2_with fail
 refine(GL HW1.out (by omega) qJ.out HR1.out.1 (by omega)).mono ?_;rintro e w2⟨hb2,hp2⟩;rw [RS.out]at hp2;obtain⟨a,b,c',d',rfl,hnd⟩:=hp2;obtain⟨A1,m1,A2,m2,A3,m3,e,o1,o2,o3⟩:=hnd;simp only [Value.agg.injEq]at e;simp at e;obtain⟨rfl,rfl,rfl,rfl⟩:=e;have HB2:=Aa (HB1.out.trans (hb2.mono HB1.out.size));obtain⟨W3,hW3⟩:∃W3,W3=w2.alloc (.cells #[.slice A1 last.nd.pre.length m1,.int .u64 (last.nd.val.toNat:Int),.slice A2 last.nd.labels.length m2,.slice A3 last.nd.kids.length m3,.int .i64 last.off,.int .u8 (last.label.toNat:Int),.int .i64 last.word] 227):=⟨_,rfl⟩;have B3:BI W3 w2.heap.size 227 [.slice A1 last.nd.pre.length m1,.int .u64 (last.nd.val.toNat:Int),.slice A2 last.nd.labels.length m2,.slice A3 last.nd.kids.length m3,.int .i64 last.off,.int .u8 (last.label.toNat:Int),.int .i64 last.word]:=hW3▸heap_alloc_new _ _;have hb3:Below w2.heap.size w2 W3:=hW3▸(Below.refl _ _).alloc (Ae _) _;have HB3:=Aa (HB2.out.trans (hb3.mono HB2.out.size));have HV:=Aa (Q9 (HX.out.below HB3.out) last (jP.out) A1 A2 A3 last.nd.pre.length m1 last.nd.labels.length m2 last.nd.kids.length m3 value);have HW3:=Aa hW3;obtain⟨y0,y1,y2,y3,y4,y5,y6⟩:=En B3;rw [hW3]at y0 y1 y2 y3 y4 y5 y6;clear o1 o2 o3 hb2 hb3 B3 hW3
 go_wp2_with fail
 rw [<-HW3.out];refine HV.out.mono ?_;rintro e w4⟨rfl,F4,hx4,hm4⟩;have HF:=Aa (And.intro hx4 ((AB.of_below (F:=F) HB3.out).trans hm4));clear hx4 hm4 y0 y1 y2 y3 y4 y5 y6 HV HW3
 go_wp2_with fail
 go_ret;refine⟨by rw [HP.out];rfl,F4,?_,HF.out.2⟩;rw [HP.out];exact HF.out.1
theorem xK(h:Ix w x d p L s F)(key:ByteArray)(h16:¬16<key.size)(value:UInt64)(hv0:value≠0)(way:List Pl)(rest:List UInt8)(hpa:Gi s key.data.toList=some (way,rest))(hw0:way=[])(hst:Dj way rest=none):
 Calls Tryz.prog 93 #[.pointer (some ⟨x,0,none⟩),.string key,.int .u64 (value.toNat:Int)] w (Jw (GX s key.data.toList value) x d p L F w):=by
 have HA:=Aa (JH h key (by omega));rw [if_neg h16]at HA;have HX:=Aa h;have hkl:=PM key;obtain⟨l0,l1,ok,Fp⟩:=h.L0;have Abp:16<=L:=by have:=ok.fits;have:=ok.BM;omega
 obtain⟨Jr,hrl⟩:=QZ ok (by omega) Fp hpa;have hwl:=OH hpa;rw [hkl]at hrl hwl;replace hrl:rest.length<=32:=by omega
 replace hwl:way.length<=33:=by omega
 have hpre:∀pl∈way,pl.nd.pre.length<=1000:=fun pl hm=>by have:=((Bg _).1 (Jr pl hm).right).1;omega
 have zy:=Aa Jr;have qJ:=Aa hpre;have RU:=Aa (J7 h key (by omega));have Yc:=Aa hpa;have hxl:=h.box.lt;have zD:=Aa h.sys.tabs.lt;have Ha:=Aa h.sys.lt;have RS:=Aa hst;obtain⟨⟨j1,name,er⟩,hr⟩:∃r,Je (rest.length+1) ⟨s,[]⟩ rest value=r:=⟨_,rfl⟩;have HR:=Aa hr;have Anm:way.length=0:=by rw [hw0];rfl
 have HP:Hid (GX s key.data.toList value=DK j1 er 72 name []):=Aa (by unfold GX;rw [hkl,if_neg h16,if_neg hv0,hpa];simp only;rw [hst,hw0];simp only [List.getLast?_nil];rw [hr]);clear hst hw0 hr;have t1:((value.toNat:Int)==0)=false:=by
  rw [beq_eq_false_iff_ne];intro e;exact hv0 (DL.1 (by simp;omega))
 clear h h16 hv0 hpa hkl ok Fp Jr hpre;go_enter Tryz.func93,Tryz.ntmps93
 go_wp2_with fail
 refine HA.out.mono ?_;rintro e w1⟨rfl,rfl⟩;clear HA
 go_wp2_with fail
 refine RU.out.mono ?_;rintro e w1⟨hb1,hp1⟩;rw [Yc.out]at hp1;obtain⟨vw,A,c,rfl,Jq,hrs,hrc⟩:=hp1;have HW1:=Aa Jq;have HR1:=Aa hrs;have HB1:=Aa hb1;clear Jq hrs hb1 RU
 go_wp2_with fail
 refine(GL HW1.out (by omega) qJ.out HR1.out.1 (by omega)).mono ?_;rintro e w2⟨hb2,hp2⟩;rw [RS.out]at hp2;replace hp2:e= .returned (.tuple #[.agg #[.slice none 0 0,.int .u64 0,.slice none 0 0,.slice none 0 0,.int .i64 0,.int .u8 0,.int .i64 0],.bool false]):=hp2;subst hp2;obtain⟨Av,cv,hvw⟩:∃Av cv,vw= .slice Av way.length cv:=by
  obtain⟨vs,ho,_⟩:=HW1.out;rcases ho.2 with⟨e1,e2⟩| ⟨g,cap,cur,e1,_⟩
  ·exact⟨none,0,by rw [e1,e2]⟩
  ·exact⟨_,_,e1⟩
 subst hvw;have HB2:=Aa (HB1.out.trans (hb2.mono HB1.out.size));obtain⟨w3,hw3⟩:∃w3,w3=w2.alloc (.cells #[.slice none 0 0,.int .u64 0,.slice none 0 0,.slice none 0 0,.int .i64 0,.int .u8 0,.int .i64 0] 227):=⟨_,rfl⟩;have FT:Below w2.heap.size w2 w3:=hw3▸(Below.refl _ _).alloc (Ae _) _;obtain⟨w4,hw4⟩:∃w4,w4=w3.alloc (.cells #[.pointer (some ⟨x,0,none⟩),.slice none 0 0] 235):=⟨_,rfl⟩;have Gl:Below w3.heap.size w3 w4:=hw4▸(Below.refl _ _).alloc (Ae _) _;have hs3:w3.heap.size=w2.heap.size+1:=by rw [hw3];simp
 have HB3:=Aa (HB2.out.trans (FT.mono HB2.out.size));have HB4:=Aa (HB3.out.trans (Gl.mono HB3.out.size));have hsz:=HB3.out.size;have hJ:=eF (HX.out.below HB4.out) hw4 (fun b hb=>by have:=Ha.out b hb;omega) (by omega) (by have:=zD.out;omega);have HGj:Hid (∀b,(fun b=>F b\/b=w3.heap.size) b->F b\/w.heap.size<=b):=Aa (fun b hb=>hb.imp id (fun e=>by omega));have Rz:Below w1.heap.size w1 w3:=hb2.trans (FT.mono hb2.size);have eG:=PI.below HR1.out Rz;have hrd:JI w4 (fun b=>F b\/b=w3.heap.size) A rest.length (rest.map bv):=by
  refine JI.below (w:=w3) ⟨eG.1,fun hn a ea hg=> ?_⟩ Gl;obtain⟨rb,ro,e',hrb,_⟩:=eG.1.2 hn;rw [e']at ea;injection ea with ea
  subst ea;rcases hg with hg| hg
  ·have:=(eG.2 _ _ e').1;have:=Ha.out _ hg;simp only at this;omega
  ·simp only at hg;omega
 have HL:=Uo (rest.length+1) w4 ⟨s,[]⟩ _ rest value A c hJ hrd hrc (by omega) (by omega) (by simp only [Dy];omega);rw [HR.out]at HL;have HL:=Aa HL;have HW3:=Aa hw3;have mX:=Aa hw4;have P5:=Aa hs3;have hmd:=KU (rest.length+1) ⟨s,[]⟩ rest value;rw [HR.out]at hmd;simp only [Dy]at hmd;rw [Anm]at*;clear hb2 FT Gl hs3 hJ hrd eG Rz hw3 hw4
 go_wp2_with fail
 rw [<-HW3.out,<-mX.out,<-P5.out];refine HL.out.mono ?_;rintro e w5⟨rfl,G5,zC,Qi⟩;have hfin:Calls Tryz.prog 141 #[.pointer (some ⟨w3.heap.size,0,none⟩),.int .i64 er,.int .i64 72,.int .u64 (name.toNat:Int),.slice none 0 0] w5 (Rj (DK j1 er 72 name []) w3.heap.size w3.heap.size x d p L j1 G5 w5):=by
  by_cases he:er=0
  ·subst he;exact NY zC 72 9 rfl (by omega) name none 0 [] JI.nil (fun o ho=>nomatch ho) (Nat.zero_le _)
  ·exact SV zC er he 72 name none 0 [] (by show j1.made.length<=1000;omega)
 have HFin:=Aa hfin;have KA:=Aa Qi;clear hfin Qi zC HL
 go_wp2_with fail
 first
  | refine HFin.out.mono ?_
  | (rw [<-P5.out];refine HFin.out.mono ?_)
 rintro e w6⟨rfl,G6,hj6,hm6⟩;have HD:=Aa (hj6.done (KA.out.trans hm6) HB4.out HGj.out);clear hj6 hm6 HFin
 go_wp2_with fail
 go_ret;refine⟨by rw [HP.out];rfl,?_⟩;rw [HP.out];exact HD.out
end
theorem XZ.mono{w:World}{G F:Nat->Prop}{a b c d:Value}{nd:Nd}(h:XZ w G a b c d nd)(k:∀b,b<w.heap.size->F b->G b):XZ w F a b c d nd:=by
 obtain⟨A1,c1,A2,c2,A3,c3,e1,e2,e3,e4,hc,h1,h2,h3⟩:=h;exact⟨A1,c1,A2,c2,A3,c3,e1,e2,e3,e4,hc,h1.mono k,h2.mono k,h3.mono k⟩
theorem qK(j:Jb)(x:Nd)(rest:List UInt8)(value:UInt64):(I4 j x rest value).1.made.length<=j.made.length+rest.length+4:=by
 have hl:=fun j' l=>KU (rest.length+1) j' l value
 have hb:=Hu j {x with pre:=x.pre.drop (common x.pre rest+1)};unfold I4;split
 ·have:=hl j (rest.drop (common x.pre rest+1));split;rename_i j1 kid e he;rw [he]at this;have h2:=NU j1 x (rest.getD (common x.pre rest) 0) kid e;simp only at this;omega
 ·split;rename_i j1 kid e he;rw [he]at hb;simp only at hb;split
  ·have h2:=NU j1 ⟨x.pre.take (common x.pre rest),value,[],[]⟩ (x.pre.getD (common x.pre rest) 0) kid e;omega
  ·split
   ·simp only;omega
   ·split
    ·split;rename_i j2 bK e2 he2;have:=hl j1 (rest.drop (common x.pre rest+1));rw [he2]at this;have h2:=NU j2 (Ij ⟨x.pre.take (common x.pre rest),0,[],[]⟩ (x.pre.getD (common x.pre rest) 0) kid) (rest.getD (common x.pre rest) 0) bK e2;simp only at this;omega
    ·simp only;omega
section
variable{w:World}{x d p L:Nat}{s:St}{F:Nat->Prop}
theorem Abq(h:Ix w x d p L s F)(key:ByteArray)(h16:¬16<key.size)(value:UInt64)(hv0:value≠0)(way:List Pl)(rest:List UInt8)(hpa:Gi s key.data.toList=some (way,rest))(hw0:way≠[])(hst:Dj way rest=none):
 Calls Tryz.prog 93 #[.pointer (some ⟨x,0,none⟩),.string key,.int .u64 (value.toNat:Int)] w (Jw (GX s key.data.toList value) x d p L F w):=by
 have HA:=Aa (JH h key (by omega));rw [if_neg h16]at HA;have HX:=Aa h;have hkl:=PM key;obtain⟨l0,l1,ok,Fp⟩:=h.L0;have Abp:16<=L:=by have:=ok.fits;have:=ok.BM;omega
 obtain⟨Jr,hrl⟩:=QZ ok (by omega) Fp hpa;have hwl:=OH hpa;rw [hkl]at hrl hwl;replace hrl:rest.length<=32:=by omega
 replace hwl:way.length<=33:=by omega
 have hpre:∀pl∈way,pl.nd.pre.length<=1000:=fun pl hm=>by have:=((Bg _).1 (Jr pl hm).right).1;omega
 have zy:=Aa Jr;have qJ:=Aa hpre;have RU:=Aa (J7 h key (by omega));have Yc:=Aa hpa;have hxl:=h.box.lt;have zD:=Aa h.sys.tabs.lt;have Ha:=Aa h.sys.lt;have hn0:0<way.length:=List.length_pos_iff.2 hw0;obtain⟨last,hla⟩:∃last,way[way.length-1]'(by omega)=last:=⟨_,rfl⟩;have hgl:way.getLast? =some last:=by rw [List.getLast?_eq_getElem?,List.getElem?_eq_getElem (by omega),hla]
 have hne:last.nd.pre≠rest:=by
  intro e;unfold Dj at hst;rw [hgl]at hst;simp only at hst;rw [if_pos e]at hst;cases hst
 have jP:=Aa (Jr last (LV hgl));have HLa:=Aa hla;have HNe:=Aa hne;have RS:=Aa hst;obtain⟨⟨j1,name,er⟩,hr⟩:∃r,I4 ⟨s,[]⟩ last.nd rest value=r:=⟨_,rfl⟩;have HR:=Aa hr;have HP:Hid (GX s key.data.toList value=DK j1 er last.word name [last.off]):=Aa (by unfold GX;rw [hkl,if_neg h16,if_neg hv0,hpa];simp only;rw [hst,hgl];simp only;rw [hr]);have hmd:=qK ⟨s,[]⟩ last.nd rest value;rw [hr]at hmd;simp only [Dy]at hmd;clear hst hr hla hgl hne;have t1:((value.toNat:Int)==0)=false:=by
  rw [beq_eq_false_iff_ne];intro e;exact hv0 (DL.1 (by simp;omega))
 clear h h16 hv0 hpa hkl ok Fp Jr hpre;go_enter Tryz.func93,Tryz.ntmps93
 go_wp2_with fail
 refine HA.out.mono ?_;rintro e w1⟨rfl,rfl⟩;clear HA
 go_wp2_with fail
 refine RU.out.mono ?_;rintro e w1⟨hb1,hp1⟩;rw [Yc.out]at hp1;obtain⟨vw,A,c,rfl,Jq,hrs,hrc⟩:=hp1;have HW1:=Aa Jq;have HR1:=Aa hrs;have HB1:=Aa hb1;clear Jq hrs hb1 RU
 go_wp2_with fail
 refine(GL HW1.out (by omega) qJ.out HR1.out.1 (by omega)).mono ?_;rintro e w2⟨hb2,hp2⟩;rw [RS.out]at hp2;replace hp2:e= .returned (.tuple #[.agg #[.slice none 0 0,.int .u64 0,.slice none 0 0,.slice none 0 0,.int .i64 0,.int .u8 0,.int .i64 0],.bool false]):=hp2;subst hp2;obtain⟨g,cv,rfl,hcv,hbg,hgw,hat⟩:=HW1.out.at hw0;obtain⟨a,b,c',d',hwc⟩:=hat (way.length-1) (by omega);rw [show way[way.length-1]'(by omega)=last from HLa.out]at hwc;have HB2:=Aa (HB1.out.trans (hb2.mono HB1.out.size));obtain⟨w3,hw3⟩:∃w3,w3=w2.alloc (.cells #[.slice none 0 0,.int .u64 0,.slice none 0 0,.slice none 0 0,.int .i64 0,.int .u8 0,.int .i64 0] 227):=⟨_,rfl⟩;have FT:Below w2.heap.size w2 w3:=hw3▸(Below.refl _ _).alloc (Ae _) _;obtain⟨w4,hw4⟩:∃w4,w4=w3.alloc (.cells #[.pointer (some ⟨x,0,none⟩),.slice none 0 0] 235):=⟨_,rfl⟩;have Gl:Below w3.heap.size w3 w4:=hw4▸(Below.refl _ _).alloc (Ae _) _;have hs3:w3.heap.size=w2.heap.size+1:=by rw [hw3];simp
 have HB3:=Aa (HB2.out.trans (FT.mono HB2.out.size));have HB4:=Aa (HB3.out.trans (Gl.mono HB3.out.size));have hsz:=HB3.out.size;have hJ:=eF (HX.out.below HB4.out) hw4 (fun b hb=>by have:=Ha.out b hb;omega) (by omega) (by have:=zD.out;omega);have HGj:Hid (∀b,(fun b=>F b\/b=w3.heap.size) b->F b\/w.heap.size<=b):=Aa (fun b hb=>hb.imp id (fun e=>by omega));have Rz:Below w1.heap.size w1 w3:=hb2.trans (FT.mono hb2.size);have eG:=PI.below HR1.out Rz;have t0:((way.length:Int)==0)=false:=by rw [beq_eq_false_iff_ne];omega
 obtain⟨m,hm⟩:∃m,m=way.length-1:=⟨_,rfl⟩;have hwm:IntKind.i64.wrap ((way.length:Int) -1)=(m:Int):=(wrap64 _ (by omega) (by omega)).trans (by omega);have hx1:decide ((m:Int)<(way.length:Int))=true:=decide_eq_true (by omega);have hx2:m<way.length:=by omega
 have hx3:(m:Int)<(way.length:Int):=by omega
 have Zn:Below w1.heap.size w1 w4:=Rz.trans (Gl.mono Rz.size);obtain⟨A1,p1,A2,p2,A3,p3,e,o1,o2,o3⟩:=hwc.nd;simp only [Value.agg.injEq]at e;simp at e;obtain⟨rfl,rfl,rfl,rfl⟩:=e;have hz:∀j v,[Value.slice A1 last.nd.pre.length p1,.int .u64 (last.nd.val.toNat:Int),.slice A2 last.nd.labels.length p2,.slice A3 last.nd.kids.length p3,.int .i64 last.off,.int .u8 (last.label.toNat:Int),.int .i64 last.word][j]? =some v->w4.cell? ⟨g,m*7+j,none⟩=some v:=fun j v hj=>by
  rw [Zn.cell (p:=⟨g,m*7+j,none⟩) hgw,Nat.mul_comm,hm];exact hwc.cells j v hj
 have z0:=hz 0 _ rfl;have z1:=hz 1 _ rfl;have z2:=hz 2 _ rfl;have z3:=hz 3 _ rfl;have z4:=hz 4 _ rfl;have z5:=hz 5 _ rfl;have z6:=hz 6 _ rfl;rw [Nat.add_zero]at z0;have hnr:XZ w4 (fun b=>F b\/b=w3.heap.size) (.slice A1 last.nd.pre.length p1) (.int .u64 (last.nd.val.toNat:Int)) (.slice A2 last.nd.labels.length p2) (.slice A3 last.nd.kids.length p3) last.nd:=by
  have q0:XZ w2 F _ _ _ _ last.nd:=XZ.Aks (hwc.nd.below hb2) (fun b hb _ hf=>by have:=Ha.out b hf;omega);have q1:XZ w2 (fun b=>F b\/b=w3.heap.size) _ _ _ _ last.nd:=q0.mono (fun b hb hg=>hg.elim id (fun e=>by first| omega| (simp only at e;omega)));exact q1.moved (AB.of_below (FT.trans (Gl.mono FT.size)))
 have hrd:JI w4 (fun b=>F b\/b=w3.heap.size) A rest.length (rest.map bv):=by
  refine JI.below (w:=w3) ⟨eG.1,fun hn a ea hg=> ?_⟩ Gl;obtain⟨rb,ro,e',hrb,_⟩:=eG.1.2 hn;rw [e']at ea;injection ea with ea
  subst ea;rcases hg with hg| hg
  ·have:=(eG.2 _ _ e').1;have:=Ha.out _ hg;simp only at this;omega
  ·simp only at hg;omega
 obtain⟨w5,hw5⟩:∃w5,w5=w4.alloc (.cells #[.slice A1 last.nd.pre.length p1,.int .u64 (last.nd.val.toNat:Int),.slice A2 last.nd.labels.length p2,.slice A3 last.nd.kids.length p3,.int .i64 last.off,.int .u8 (last.label.toNat:Int),.int .i64 last.word] 227):=⟨_,rfl⟩;have B5:BI w5 w4.heap.size 227 [.slice A1 last.nd.pre.length p1,.int .u64 (last.nd.val.toNat:Int),.slice A2 last.nd.labels.length p2,.slice A3 last.nd.kids.length p3,.int .i64 last.off,.int .u8 (last.label.toNat:Int),.int .i64 last.word]:=hw5▸heap_alloc_new _ _;have Ol:Below w4.heap.size w4 w5:=hw5▸(Below.refl _ _).alloc (Ae _) _;have hpl:=jP.out;have Ak9:=((Bg _).1 hpl.right).1;have Ala:=hpl.kids;have Alb:=hpl.labels;have HGr:=Abn (hJ.below Ol) last.nd A1 A2 A3 p1 p2 p3 last.off last.word last.label rest A c value (hnr.moved (AB.of_below Ol)) (by omega) (by omega) (by omega) (hrd.below Ol) hrc (by omega) (by simp) HNe.out;rw [HR.out]at HGr;have HGr:=Aa HGr;have HJl:=Aa hJ.lt;have HW3:=Aa hw3;have mX:=Aa hw4;have HW5:=Aa hw5;have P5:=Aa hs3;have hs4:w4.heap.size=w2.heap.size+2:=by rw [hw4];simp;omega
 have gI:=Aa hs4;have Ou:=Aa (HB4.out.trans (Ol.mono HB4.out.size));have zB:=Aa B5;rw [hw4,hw3]at z0 z1 z2 z3 z4 z5 z6;clear hb2 FT Gl hs3 hs4 hJ hrd eG Rz Zn hw3 hw4 hw5 Ol B5 hz hwc hat o1 o2 o3 hnr hm hpl
 go_wp2_with fail
 rw [<-HW3.out,<-mX.out,<-HW5.out,<-P5.out];refine HGr.out.mono ?_;rintro e w6⟨rfl,G6,hj6,hm6⟩;have B6:=zB.out.touch hm6.touch (fun hg=>by have:=HJl.out _ hg;omega);obtain⟨w7,hw7⟩:∃w7,w7=w6.alloc (.cells #[.int .i64 last.off] 3):=⟨_,rfl⟩;have Aew:Below w6.heap.size w6 w7:=hw7▸(Below.refl _ _).alloc (Ae _) _;have B7:BI w7 w6.heap.size 3 [zv last.off]:=hw7▸heap_alloc_new _ _;have hO:JI w7 G6 (some ⟨w6.heap.size,0,none⟩) 1 ([last.off].map zv):=⟨B7.rd,fun _ a ea hg=>by
  injection ea with ea
  subst ea;exact absurd (hj6.lt _ hg) (Nat.lt_irrefl _)⟩
 have hfin:Calls Tryz.prog 141 #[.pointer (some ⟨w3.heap.size,0,none⟩),.int .i64 er,.int .i64 last.word,.int .u64 (name.toNat:Int),.slice (some ⟨w6.heap.size,0,none⟩) 1 1] w7 (Rj (DK j1 er last.word name [last.off]) w3.heap.size w3.heap.size x d p L j1 G6 w7):=by
  by_cases he:er=0
  ·subst he;obtain⟨jw,mY,hjl⟩:=jP.out.word;obtain⟨o,ho,hol⟩:=jP.out.off;exact NY (hj6.below Aew) last.word jw mY hjl name _ 1 [last.off] hO (fun o' ho'=>by rw [List.mem_singleton]at ho';omega) (by simp)
  ·exact SV (hj6.below Aew) er he last.word name _ 1 [last.off] (by show j1.made.length<=1000;omega)
 have HFin:=Aa hfin;have Zg:=Aa (hm6.trans (AB.of_below Aew));have HW7:=Aa hw7;have NH:=Aa B6;clear z0 z1 z2 z3 z4 z5 z6 hm6 hj6 Aew B7 hO hfin hw7 HGr B6;obtain⟨y0,y1,y2,y3,y4,y5,y6⟩:=En NH.out;rw [gI.out]at y0 y1 y2 y3 y4 y5 y6;rw [P5.out]
 go_wp2_with fail
 rw [<-HW7.out,<-P5.out];refine HFin.out.mono ?_;rintro e w8⟨rfl,G8,vY,dW⟩;have HD:=Aa (vY.done (Zg.out.trans dW) Ou.out HGj.out);clear vY dW HFin
 go_wp2_with fail
 go_ret;refine⟨by rw [HP.out];rfl,?_⟩;rw [HP.out];exact HD.out
theorem KZ(h:Ix w x d p L s F)(key:ByteArray)(hk:key.size<=1000)(value:UInt64):
 Calls Tryz.prog 93 #[.pointer (some ⟨x,0,none⟩),.string key,.int .u64 (value.toNat:Int)] w (Jw (GX s key.data.toList value) x d p L F w):=by
 by_cases h16:16<key.size
 ·exact UY h key hk value (.inl h16)
 ·by_cases hv0:value=0
  ·exact UY h key hk value (.inr (.inl hv0))
  ·cases hp:Gi s key.data.toList with
   | none=>exact UY h key hk value (.inr (.inr hp))
   | some wr=>
     obtain⟨way,rest⟩:=wr;cases hst:Dj way rest with
     | some last=>exact xJ h key h16 value hv0 way rest hp last hst
     | none=>
       by_cases hw0:way=[]
       ·exact xK h key h16 value hv0 way rest hp hw0 hst
       ·exact Abq h key h16 value hv0 way rest hp hw0 hst
end
section
variable{len:Mode}{w:World}{x d p L:Nat}{s:St}{F:Nat->Prop}
def GetPost(r:UInt64×Int)(w:World)(e:Ending)(w':World):Prop:=e= .returned (.tuple #[.int .u64 (r.1.toNat:Int),.int .i64 r.2])/\Below w.heap.size w w'
def eH(r:St×UInt64×Int)(x d p L:Nat)(F:Nat->Prop)(w:World)(e:Ending)(w':World):Prop:=
 e= .returned (.tuple #[.int .u64 (r.2.1.toNat:Int),.int .i64 r.2.2])/\∃F',Ix w' x d p L r.1 F'/\AB F F' w w'
theorem GZ (h : Nv len w x d p L s F) (key : ByteArray) (hk : key.size <= 1000) :
    Calls Tryz.prog 91 #[.pointer (some ⟨x, 0, none⟩), .string key] w (GetPost (FP s key.data.toList) w) := by
  have HX := Aa h
  have HA := Aa (JH h key (by omega))
  have hkl := PM key
  by_cases h16 : 16 < key.size
  · rw [if_pos h16] at HA
    have HP : Hid (FP s key.data.toList = (0, 3)) := Aa (by unfold FP; rw [hkl, if_pos h16])
    clear h hkl
    go_enter Tryz.func91, Tryz.ntmps91
    go_wp2_with fail
    refine HA.out.mono ?_
    rintro e w1 ⟨rfl, rfl⟩
    go_wp2_with fail
    go_ret2
    exact ⟨by rw [HP.out]; rfl, (Below.refl _ _)⟩
  · rw [if_neg h16] at HA
    obtain ⟨l0, l1, ok, Fp⟩ := h.L0
    have Abp : 16 <= L := by have := ok.fits; have := ok.BM; omega
    have RU := Aa (J7 h key (by omega))
    cases hpa : Gi s key.data.toList with
    | none =>
      have HP : Hid (FP s key.data.toList = (0, 5)) := Aa (by unfold FP; rw [hkl, if_neg h16, hpa])
      have Yc := Aa hpa
      clear h hkl ok Fp hpa
      go_enter Tryz.func91, Tryz.ntmps91
      go_wp2_with fail
      refine HA.out.mono ?_
      rintro e w1 ⟨rfl, rfl⟩
      clear HA
      go_wp2_with fail
      refine RU.out.mono ?_
      rintro e w1 ⟨hb1, hp1⟩
      rw [Yc.out] at hp1
      replace hp1 : e = .returned (.tuple #[.slice none 0 0, .slice none 0 0, .int .i64 5]) := hp1
      subst hp1
      have HB1 := Aa hb1
      clear RU hb1
      go_wp2_with fail
      go_ret2
      exact ⟨by rw [HP.out]; rfl, HB1.out⟩
    | some wr =>
      obtain ⟨way, rest⟩ := wr
      obtain ⟨Jr, hrl⟩ := QZ ok (by omega) Fp hpa
      have hwl := OH hpa
      rw [hkl] at hrl hwl
      replace hrl : rest.length <= 32 := by omega
      replace hwl : way.length <= 33 := by omega
      have hpre : ∀ pl ∈ way, pl.nd.pre.length <= 1000 := fun pl hm => by have := ((Bg _).1 (Jr pl hm).right).1; omega
      have zy := Aa Jr
      have qJ := Aa hpre
      have Yc := Aa hpa
      have hxl := h.box.lt
      have zD := Aa h.sys.tabs.lt
      have Ha := Aa h.sys.lt
      cases hst : Dj way rest with
      | none =>
        have HP : Hid (FP s key.data.toList = (0, 7)) := Aa (by unfold FP; rw [hkl, if_neg h16, hpa]; simp only; rw [hst])
        have RS := Aa hst
        clear h hkl ok Fp hpa hst Jr hpre
        go_enter Tryz.func91, Tryz.ntmps91
        go_wp2_with fail
        refine HA.out.mono ?_
        rintro e w1 ⟨rfl, rfl⟩
        clear HA
        go_wp2_with fail
        refine RU.out.mono ?_
        rintro e w1 ⟨hb1, hp1⟩
        rw [Yc.out] at hp1
        obtain ⟨vw, A, c, rfl, Jq, hrs, hrc⟩ := hp1
        have HW1 := Aa Jq
        have HR1 := Aa hrs
        have HB1 := Aa hb1
        clear Jq hrs hb1 RU
        go_wp2_with fail
        refine (GL HW1.out (by omega) qJ.out HR1.out.1 (by omega)).mono ?_
        rintro e w2 ⟨hb2, hp2⟩
        rw [RS.out] at hp2
        replace hp2 : e = .returned (.tuple #[.agg #[.slice none 0 0, .int .u64 0, .slice none 0 0, .slice none 0 0, .int .i64 0, .int .u8 0, .int .i64 0], .bool false]) := hp2
        subst hp2
        have HB2 := Aa (HB1.out.trans (hb2.mono HB1.out.size))
        clear hb2
        have HB3 : Hid (Below w.heap.size w (w2.alloc (.cells #[.slice none 0 0, .int .u64 0, .slice none 0 0, .slice none 0 0, .int .i64 0, .int .u8 0, .int .i64 0] 227))) := Aa (HB2.out.alloc HB2.out.size _)
        go_wp2_with fail
        go_ret2
        exact ⟨by rw [HP.out]; rfl, HB3.out⟩
      | some last =>
        have hmem : last ∈ way := by
          unfold Dj at hst
          split at hst
          · cases hst
          · rename_i l hl
            split at hst
            · injection hst with hst; subst hst; exact LV hl
            · cases hst
        have jP := Aa (Jr last hmem)
        have RS := Aa hst
        by_cases hv0 : last.nd.val = 0
        · have HP : Hid (FP s key.data.toList = (0, 7)) := Aa (by unfold FP; rw [hkl, if_neg h16, hpa]; simp only; rw [hst]; simp only; rw [if_pos hv0])
          have t1 : ((last.nd.val.toNat : Int) == 0) = true := by rw [hv0]; rfl
          clear h hkl ok Fp hpa hst Jr hpre hmem
          go_enter Tryz.func91, Tryz.ntmps91
          go_wp2_with fail
          refine HA.out.mono ?_
          rintro e w1 ⟨rfl, rfl⟩
          clear HA
          go_wp2_with fail
          refine RU.out.mono ?_
          rintro e w1 ⟨hb1, hp1⟩
          rw [Yc.out] at hp1
          obtain ⟨vw, A, c, rfl, Jq, hrs, hrc⟩ := hp1
          have HW1 := Aa Jq
          have HR1 := Aa hrs
          have HB1 := Aa hb1
          clear Jq hrs hb1 RU
          go_wp2_with fail
          refine (GL HW1.out (by omega) qJ.out HR1.out.1 (by omega)).mono ?_
          rintro e w2 ⟨hb2, hp2⟩
          rw [RS.out] at hp2
          obtain ⟨a, b, c', d', rfl, hnd⟩ := hp2
          obtain ⟨A1, m1, A2, m2, A3, m3, e, o1, o2, o3⟩ := hnd
          simp only [Value.agg.injEq] at e
          simp at e
          obtain ⟨rfl, rfl, rfl, rfl⟩ := e
          have HB2 := Aa (HB1.out.trans (hb2.mono HB1.out.size))
          obtain ⟨W3, hW3⟩ : ∃ W3, W3 = w2.alloc (.cells #[.slice A1 last.nd.pre.length m1, .int .u64 (last.nd.val.toNat : Int), .slice A2 last.nd.labels.length m2, .slice A3 last.nd.kids.length m3, .int .i64 last.off, .int .u8 (last.label.toNat : Int), .int .i64 last.word] 227) := ⟨_, rfl⟩
          have B3 : BI W3 w2.heap.size 227 [.slice A1 last.nd.pre.length m1, .int .u64 (last.nd.val.toNat : Int), .slice A2 last.nd.labels.length m2, .slice A3 last.nd.kids.length m3, .int .i64 last.off, .int .u8 (last.label.toNat : Int), .int .i64 last.word] := hW3 ▸ heap_alloc_new _ _
          have hb3 : Below w2.heap.size w2 W3 := hW3 ▸ (Below.refl _ _).alloc (Ae _) _
          have HB3 := Aa (HB2.out.trans (hb3.mono HB2.out.size))
          have HW3 := Aa hW3
          obtain ⟨y0, y1, y2, y3, y4, y5, y6⟩ := En B3
          rw [hW3] at y0 y1 y2 y3 y4 y5 y6
          rw [hW3] at HB3
          clear o1 o2 o3 hb2 hb3 B3 hW3 HW3
          go_wp2_with fail
          go_ret2
          have HBz := HB3.out
          rw [hv0] at HBz
          exact ⟨by rw [HP.out]; rfl, HBz⟩
        · have t1 : ((last.nd.val.toNat : Int) == 0) = false := by
            rw [beq_eq_false_iff_ne]; intro e; exact hv0 (DL.1 (by simp; omega))
          have HP : Hid (FP s key.data.toList = (last.nd.val, 0)) := Aa (by unfold FP; rw [hkl, if_neg h16, hpa]; simp only; rw [hst]; simp only; rw [if_neg hv0])
          clear h hkl ok Fp hpa hst Jr hpre hmem
          go_enter Tryz.func91, Tryz.ntmps91
          go_wp2_with fail
          refine HA.out.mono ?_
          rintro e w1 ⟨rfl, rfl⟩
          clear HA
          go_wp2_with fail
          refine RU.out.mono ?_
          rintro e w1 ⟨hb1, hp1⟩
          rw [Yc.out] at hp1
          obtain ⟨vw, A, c, rfl, Jq, hrs, hrc⟩ := hp1
          have HW1 := Aa Jq
          have HR1 := Aa hrs
          have HB1 := Aa hb1
          clear Jq hrs hb1 RU
          go_wp2_with fail
          refine (GL HW1.out (by omega) qJ.out HR1.out.1 (by omega)).mono ?_
          rintro e w2 ⟨hb2, hp2⟩
          rw [RS.out] at hp2
          obtain ⟨a, b, c', d', rfl, hnd⟩ := hp2
          obtain ⟨A1, m1, A2, m2, A3, m3, e, o1, o2, o3⟩ := hnd
          simp only [Value.agg.injEq] at e
          simp at e
          obtain ⟨rfl, rfl, rfl, rfl⟩ := e
          have HB2 := Aa (HB1.out.trans (hb2.mono HB1.out.size))
          obtain ⟨W3, hW3⟩ : ∃ W3, W3 = w2.alloc (.cells #[.slice A1 last.nd.pre.length m1, .int .u64 (last.nd.val.toNat : Int), .slice A2 last.nd.labels.length m2, .slice A3 last.nd.kids.length m3, .int .i64 last.off, .int .u8 (last.label.toNat : Int), .int .i64 last.word] 227) := ⟨_, rfl⟩
          have B3 : BI W3 w2.heap.size 227 [.slice A1 last.nd.pre.length m1, .int .u64 (last.nd.val.toNat : Int), .slice A2 last.nd.labels.length m2, .slice A3 last.nd.kids.length m3, .int .i64 last.off, .int .u8 (last.label.toNat : Int), .int .i64 last.word] := hW3 ▸ heap_alloc_new _ _
          have hb3 : Below w2.heap.size w2 W3 := hW3 ▸ (Below.refl _ _).alloc (Ae _) _
          have HB3 := Aa (HB2.out.trans (hb3.mono HB2.out.size))
          have HW3 := Aa hW3
          obtain ⟨y0, y1, y2, y3, y4, y5, y6⟩ := En B3
          rw [hW3] at y0 y1 y2 y3 y4 y5 y6
          rw [hW3] at HB3
          clear o1 o2 o3 hb2 hb3 B3 hW3 HW3
          go_wp2_with fail
          go_ret2
          exact ⟨by rw [HP.out]; rfl, HB3.out⟩
theorem xM (h : Ix w x d p L s F) (key : ByteArray) (hk : key.size <= 1000) (hkids : ∀ way rest last, Gi s key.data.toList = some (way, rest) -> Dj way rest = some last -> last.nd.val ≠ 0 -> ¬ 16 < key.size -> ¬ last.nd.kids.length = 0) :
    Calls Tryz.prog 115 #[.pointer (some ⟨x, 0, none⟩), .string key] w (eH (Nh s key.data.toList) x d p L F w) := by
  have HX := Aa h
  have HA := Aa (JH h key (by omega))
  have hkl := PM key
  by_cases h16 : 16 < key.size
  · rw [if_pos h16] at HA
    have HP : Hid (Nh s key.data.toList = (s, 0, 3)) := Aa (by unfold Nh; rw [hkl, if_pos h16])
    clear h hkl hkids
    go_enter Tryz.func115, Tryz.ntmps115
    go_wp2_with fail
    refine HA.out.mono ?_
    rintro e w1 ⟨rfl, rfl⟩
    go_wp2_with fail
    go_ret2
    refine ⟨by rw [HP.out]; rfl, F, ?_, AB.of_below (Below.refl _ _)⟩
    rw [HP.out]
    exact HX.out.below (Below.refl _ _)
  · rw [if_neg h16] at HA
    obtain ⟨l0, l1, ok, Fp⟩ := h.L0
    have Abp : 16 <= L := by have := ok.fits; have := ok.BM; omega
    have RU := Aa (J7 h key (by omega))
    cases hpa : Gi s key.data.toList with
    | none =>
      have HP : Hid (Nh s key.data.toList = (s, 0, 5)) := Aa (by unfold Nh; rw [hkl, if_neg h16, hpa])
      have Yc := Aa hpa
      clear h hkl ok Fp hpa hkids
      go_enter Tryz.func115, Tryz.ntmps115
      go_wp2_with fail
      refine HA.out.mono ?_
      rintro e w1 ⟨rfl, rfl⟩
      clear HA
      go_wp2_with fail
      refine RU.out.mono ?_
      rintro e w1 ⟨hb1, hp1⟩
      rw [Yc.out] at hp1
      replace hp1 : e = .returned (.tuple #[.slice none 0 0, .slice none 0 0, .int .i64 5]) := hp1
      subst hp1
      have HB1 := Aa hb1
      clear RU hb1
      go_wp2_with fail
      go_ret2
      refine ⟨by rw [HP.out]; rfl, F, ?_, AB.of_below HB1.out⟩
      rw [HP.out]
      exact HX.out.below HB1.out
    | some wr =>
      obtain ⟨way, rest⟩ := wr
      obtain ⟨Jr, hrl⟩ := QZ ok (by omega) Fp hpa
      have hwl := OH hpa
      rw [hkl] at hrl hwl
      replace hrl : rest.length <= 32 := by omega
      replace hwl : way.length <= 33 := by omega
      have hpre : ∀ pl ∈ way, pl.nd.pre.length <= 1000 := fun pl hm => by have := ((Bg _).1 (Jr pl hm).right).1; omega
      have zy := Aa Jr
      have qJ := Aa hpre
      have Yc := Aa hpa
      have hxl := h.box.lt
      have zD := Aa h.sys.tabs.lt
      have Ha := Aa h.sys.lt
      cases hst : Dj way rest with
      | none =>
        have HP : Hid (Nh s key.data.toList = (s, 0, 7)) := Aa (by unfold Nh; rw [hkl, if_neg h16, hpa]; simp only; rw [hst])
        have RS := Aa hst
        clear h hkl ok Fp hpa hst Jr hpre hkids
        go_enter Tryz.func115, Tryz.ntmps115
        go_wp2_with fail
        refine HA.out.mono ?_
        rintro e w1 ⟨rfl, rfl⟩
        clear HA
        go_wp2_with fail
        refine RU.out.mono ?_
        rintro e w1 ⟨hb1, hp1⟩
        rw [Yc.out] at hp1
        obtain ⟨vw, A, c, rfl, Jq, hrs, hrc⟩ := hp1
        have HW1 := Aa Jq
        have HR1 := Aa hrs
        have HB1 := Aa hb1
        clear Jq hrs hb1 RU
        go_wp2_with fail
        refine (GL HW1.out (by omega) qJ.out HR1.out.1 (by omega)).mono ?_
        rintro e w2 ⟨hb2, hp2⟩
        rw [RS.out] at hp2
        replace hp2 : e = .returned (.tuple #[.agg #[.slice none 0 0, .int .u64 0, .slice none 0 0, .slice none 0 0, .int .i64 0, .int .u8 0, .int .i64 0], .bool false]) := hp2
        subst hp2
        have HB2 := Aa (HB1.out.trans (hb2.mono HB1.out.size))
        clear hb2
        have HB3 : Hid (Below w.heap.size w (w2.alloc (.cells #[.slice none 0 0, .int .u64 0, .slice none 0 0, .slice none 0 0, .int .i64 0, .int .u8 0, .int .i64 0] 227))) := Aa (HB2.out.alloc HB2.out.size _)
        go_wp2_with fail
        go_ret2
        refine ⟨by rw [HP.out]; rfl, F, ?_, AB.of_below HB3.out⟩
        rw [HP.out]
        exact HX.out.below HB3.out
      | some last =>
        have hmem : last ∈ way := by
          unfold Dj at hst
          split at hst
          · cases hst
          · rename_i l hl
            split at hst
            · injection hst with hst; subst hst; exact LV hl
            · cases hst
        have jP := Aa (Jr last hmem)
        have RS := Aa hst
        by_cases hv0 : last.nd.val = 0
        · have HP : Hid (Nh s key.data.toList = (s, 0, 7)) := Aa (by unfold Nh; rw [hkl, if_neg h16, hpa]; simp only; rw [hst]; simp only; rw [if_pos hv0])
          have t1 : ((last.nd.val.toNat : Int) == 0) = true := by rw [hv0]; rfl
          clear h hkl ok Fp hpa hst Jr hpre hmem hkids
          go_enter Tryz.func115, Tryz.ntmps115
          go_wp2_with fail
          refine HA.out.mono ?_
          rintro e w1 ⟨rfl, rfl⟩
          clear HA
          go_wp2_with fail
          refine RU.out.mono ?_
          rintro e w1 ⟨hb1, hp1⟩
          rw [Yc.out] at hp1
          obtain ⟨vw, A, c, rfl, Jq, hrs, hrc⟩ := hp1
          have HW1 := Aa Jq
          have HR1 := Aa hrs
          have HB1 := Aa hb1
          clear Jq hrs hb1 RU
          go_wp2_with fail
          refine (GL HW1.out (by omega) qJ.out HR1.out.1 (by omega)).mono ?_
          rintro e w2 ⟨hb2, hp2⟩
          rw [RS.out] at hp2
          obtain ⟨a, b, c', d', rfl, hnd⟩ := hp2
          obtain ⟨A1, m1, A2, m2, A3, m3, e, o1, o2, o3⟩ := hnd
          simp only [Value.agg.injEq] at e
          simp at e
          obtain ⟨rfl, rfl, rfl, rfl⟩ := e
          have HB2 := Aa (HB1.out.trans (hb2.mono HB1.out.size))
          obtain ⟨W3, hW3⟩ : ∃ W3, W3 = w2.alloc (.cells #[.slice A1 last.nd.pre.length m1, .int .u64 (last.nd.val.toNat : Int), .slice A2 last.nd.labels.length m2, .slice A3 last.nd.kids.length m3, .int .i64 last.off, .int .u8 (last.label.toNat : Int), .int .i64 last.word] 227) := ⟨_, rfl⟩
          have B3 : BI W3 w2.heap.size 227 [.slice A1 last.nd.pre.length m1, .int .u64 (last.nd.val.toNat : Int), .slice A2 last.nd.labels.length m2, .slice A3 last.nd.kids.length m3, .int .i64 last.off, .int .u8 (last.label.toNat : Int), .int .i64 last.word] := hW3 ▸ heap_alloc_new _ _
          have hb3 : Below w2.heap.size w2 W3 := hW3 ▸ (Below.refl _ _).alloc (Ae _) _
          have HB3 := Aa (HB2.out.trans (hb3.mono HB2.out.size))
          have HW3 := Aa hW3
          obtain ⟨y0, y1, y2, y3, y4, y5, y6⟩ := En B3
          rw [hW3] at y0 y1 y2 y3 y4 y5 y6
          rw [hW3] at HB3
          clear o1 o2 o3 hb2 hb3 B3 hW3 HW3
          go_wp2_with fail
          go_ret2
          have HBz := HB3.out
          rw [hv0] at HBz
          refine ⟨by rw [HP.out]; rfl, F, ?_, AB.of_below HBz⟩
          rw [HP.out]
          exact HX.out.below HBz
        · have t1 : ((last.nd.val.toNat : Int) == 0) = false := by
            rw [beq_eq_false_iff_ne]; intro e; exact hv0 (DL.1 (by simp; omega))
          have hk0 := hkids way rest last hpa hst hv0 h16
          have HP : Hid (Nh s key.data.toList = (JU s last 0, last.nd.val, 0)) := Aa (by unfold Nh; rw [hkl, if_neg h16, hpa]; simp only; rw [hst]; simp only; rw [if_neg hv0, if_neg hk0]; rfl)
          have t2 : ((last.nd.kids.length : Int) == 0) = false := by rw [beq_eq_false_iff_ne]; omega
          clear h hkl ok Fp hpa hst Jr hpre hmem hkids
          go_enter Tryz.func115, Tryz.ntmps115
          go_wp2_with fail
          refine HA.out.mono ?_
          rintro e w1 ⟨rfl, rfl⟩
          clear HA
          go_wp2_with fail
          refine RU.out.mono ?_
          rintro e w1 ⟨hb1, hp1⟩
          rw [Yc.out] at hp1
          obtain ⟨vw, A, c, rfl, Jq, hrs, hrc⟩ := hp1
          have HW1 := Aa Jq
          have HR1 := Aa hrs
          have HB1 := Aa hb1
          clear Jq hrs hb1 RU
          go_wp2_with fail
          refine (GL HW1.out (by omega) qJ.out HR1.out.1 (by omega)).mono ?_
          rintro e w2 ⟨hb2, hp2⟩
          rw [RS.out] at hp2
          obtain ⟨a, b, c', d', rfl, hnd⟩ := hp2
          obtain ⟨A1, m1, A2, m2, A3, m3, e, o1, o2, o3⟩ := hnd
          simp only [Value.agg.injEq] at e
          simp at e
          obtain ⟨rfl, rfl, rfl, rfl⟩ := e
          have HB2 := Aa (HB1.out.trans (hb2.mono HB1.out.size))
          obtain ⟨W3, hW3⟩ : ∃ W3, W3 = w2.alloc (.cells #[.slice A1 last.nd.pre.length m1, .int .u64 (last.nd.val.toNat : Int), .slice A2 last.nd.labels.length m2, .slice A3 last.nd.kids.length m3, .int .i64 last.off, .int .u8 (last.label.toNat : Int), .int .i64 last.word] 227) := ⟨_, rfl⟩
          have B3 : BI W3 w2.heap.size 227 [.slice A1 last.nd.pre.length m1, .int .u64 (last.nd.val.toNat : Int), .slice A2 last.nd.labels.length m2, .slice A3 last.nd.kids.length m3, .int .i64 last.off, .int .u8 (last.label.toNat : Int), .int .i64 last.word] := hW3 ▸ heap_alloc_new _ _
          have hb3 : Below w2.heap.size w2 W3 := hW3 ▸ (Below.refl _ _).alloc (Ae _) _
          have HB3 := Aa (HB2.out.trans (hb3.mono HB2.out.size))
          have HV := Aa (Q9 (HX.out.below HB3.out) last (jP.out) A1 A2 A3 last.nd.pre.length m1 last.nd.labels.length m2 last.nd.kids.length m3 0)
          have HW3 := Aa hW3
          obtain ⟨y0, y1, y2, y3, y4, y5, y6⟩ := En B3
          have KG := Aa B3
          rw [hW3] at y0 y1 y2 y3 y4 y5 y6
          clear o1 o2 o3 hb2 hb3 B3 hW3
          go_wp2_with fail
          rw [<- HW3.out]
          refine HV.out.mono ?_
          rintro e w4 ⟨rfl, F4, hx4, hm4⟩
          have HF := Aa (And.intro hx4 ((AB.of_below (F := F) HB3.out).trans hm4))
          have B4 := KG.out.touch hm4.touch (fun hg => by have := Ha.out _ hg; have := HB2.out.size; omega)
          obtain ⟨z0, z1, z2, z3, z4, z5, z6⟩ := En B4
          clear hx4 hm4 y0 y1 y2 y3 y4 y5 y6 HV HW3 B4 KG
          go_wp2_with fail
          go_ret2
          refine ⟨by rw [HP.out]; rfl, F4, ?_, HF.out.2⟩
          rw [HP.out]
          exact HF.out.1
end
end Go.Proofs.YtjcppneoncpdbaaGreatDoor
