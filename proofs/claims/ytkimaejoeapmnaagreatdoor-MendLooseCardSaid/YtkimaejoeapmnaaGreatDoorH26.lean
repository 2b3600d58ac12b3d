import Derived.Test.YtkimaejoeapmnaaGreatDoorH25
set_option linter.defProp false
set_option maxHeartbeats 32000000
set_option maxRecDepth 100000
open Go.Lib renaming hid->Aa
open List renaming mem_of_getLast?->Nb,length_nil->Du
open UInt64 renaming toNat_inj->Ec
namespace Go.Proofs.YtkimaejoeapmnaaGreatDoor
open Go.RowKit
open Go.Proofs.Tryz
def aO{s:St}:∀(f:Nat)(name:UInt64)(rest:List UInt8)(label:UInt8)(word:Int)(way dN:List Pl)(rest':List UInt8),Ez s f name rest label word way=some (dN,rest')->dN.length<=way.length+f
 | 0,name,rest,label,word,way,dN,rest',h=>by
   rw [Ez]at h;injection h with h
   injection h with h1 h2
   subst h1;omega
 | f+1,name,rest,label,word,way,dN,rest',h=>by
   rw [Ez]at h;split at h
   ·injection h with h
    injection h with h1 h2
    subst h1;omega
   ·split at h
    ·cases h
    ·split at h
     ·injection h with h
      injection h with h1 h2
      subst h1;simp
     ·split at h
      ·injection h with h
       injection h with h1 h2
       subst h1;simp
      ·have:=aO f _ _ _ _ _ _ _ h;simp at this;omega
def PK{s:St}{key:List UInt8}{way:List Pl}{rest:List UInt8}(h:FY s key=some (way,rest)):way.length<=2*key.length+1:=by
 have:=aO _ _ _ _ _ _ _ _ h;simpa using this
def Qs.below{w w':World}{base:Nat}{A:Option Addr}{l:List UInt8}(h:Qs w base A l)(k:η w w'):Qs w' base A l:=(CX.of_below k).rs h
section
variable{w:World}{x d p L:Nat}{s:St}{F:Nat->Prop}{lf:Int}
def Ac8(h:Jd (.up (MU lf)) w x d p L s F)(key:ByteArray)(h16:¬16<key.size)(value:UInt64)(hv0:value≠0)(way:List Pl)(rest:List UInt8)(hpa:FY s key.data.toList=some (way,rest))(last:Pl)(hst:CZ way rest=some last):
 Calls prog 71 #[Az x,.string key,.int .u64 (value.toNat:Int)] w (RX (Qj ⟨.up lf,s⟩ key.data.toList value) x d p L F w):=by
 have HA:=Aa (KA h key O);rw [if_neg h16]at HA;have HX:=Aa h;have hkl:=Q7 key;obtain⟨l0,l1,ok,FZ⟩:=h.L0;have Aha:16<=L:=Ψ ok.fits ok.BM
 obtain⟨JF,hrl⟩:=Tj ok O FZ hpa;have hwl:=PK hpa;rw [hkl]at hrl hwl;replace hrl:rest.length<=32:=O
 replace hwl:way.length<=33:=O
 have hpre:∀pl∈way,pl.nd.pre.length<=1000:=λpl hm=>Ω (((Bq _).1 (JF pl hm).right).1)
 have HPk:=Aa JF;have yt:=Aa hpre;have TW:=Aa (JY h key O);have aA:=Aa hpa;have hxl:=h.box.lt;have kX:=Aa h.sys.tabs.lt;have MC:=Aa h.sys.lt;have MX:=Aa hst;have hmem:last∈way:=by
  unfold CZ at hst;split at hst
  ·cases hst
  ·rename_i l hl;split at hst
   ·injection hst with hst;subst hst;exact Nb hl
   ·cases hst
 have qG:=Aa (JF last hmem);have HP:Hid (Qj ⟨.up lf,s⟩ key.data.toList value=Ob ⟨.up lf,s⟩ last value):=Aa (by unfold Qj;rw [hkl,if_neg h16,if_neg hv0];simp only [hpa,hst]);clear hst hmem;have t1:((value.toNat:Int)==0)=false:=by
  rw [beq_eq_false_iff_ne];intro e;exact hv0 (Ec.1 (by simp;omega))
 clear h h16 hv0 hpa hkl ok FZ JF hpre;go_enter func71,ntmps71
 go_wp2_with fail
 refine HA.out.mono ?_;rintro e w1⟨rfl,rfl⟩;clear HA
 go_wp2_with fail
 refine TW.out.mono ?_;rintro e w1⟨hb1,hp1⟩;rw [aA.out]at hp1;obtain⟨vw,A,c,rfl,JE,hrs,hrc⟩:=hp1;have HW1:=Aa JE;have HR1:=Aa hrs;have HB1:=Aa hb1;clear JE hrs hb1 TW
 go_wp2_with fail
 refine(Ht HW1.out O yt.out HR1.out.1 O).mono ?_;rintro e w2⟨hb2,hp2⟩;rw [MX.out]at hp2;obtain⟨a,b,c',d',rfl,hnd⟩:=hp2;obtain⟨A1,m1,A2,m2,A3,m3,e,o1,o2,o3⟩:=hnd;simp only [Value.agg.injEq]at e;simp at e;obtain⟨rfl,rfl,rfl,rfl⟩:=e;have HB2:=Aa (τ HB1.out hb2);obtain⟨W3,hW3,hb3,B3⟩:=EZ w2 214 [.slice A1 last.nd.pre.length m1,.int .u64 (last.nd.val.toNat:Int),.slice A2 last.nd.labels.length m2,.slice A3 last.nd.kids.length m3,.int .i64 last.off,.int .u8 (last.label.toNat:Int),.int .i64 last.word];have HB3:=Aa (τ HB2.out hb3);have HV:=Aa (Qx (q:=⟨.up lf,s⟩) (HX.out.below HB3.out) last (qG.out) A1 A2 A3 last.nd.pre.length m1 last.nd.labels.length m2 last.nd.kids.length m3 value);have HW3:=Aa hW3;obtain⟨y0,y1,y2,y3,y4,y5,y6⟩:=EI B3;rw [hW3]at y0 y1 y2 y3 y4 y5 y6;clear o1 o2 o3 hb2 hb3 B3 hW3
 go_wp2_with fail
 rw [<-HW3.out];refine HV.out.mono ?_;rintro e w4⟨rfl,F4,hx4,hm4⟩;have HF:=Aa (And.intro hx4 ((AP.of_below (F:=F) HB3.out).trans hm4));clear hx4 hm4 y0 y1 y2 y3 y4 y5 y6 HV HW3
 go_wp2_with fail
 go_ret;refine⟨by rw [HP.out];rfl,F4,?_,HF.out.2⟩;rw [HP.out];exact HF.out.1
def Ac9(h:Jd (.up (MU lf)) w x d p L s F)(key:ByteArray)(h16:¬16<key.size)(value:UInt64)(hv0:value≠0)(way:List Pl)(rest:List UInt8)(hpa:FY s key.data.toList=some (way,rest))(hw0:way=[])(hst:CZ way rest=none):
 Calls prog 71 #[Az x,.string key,.int .u64 (value.toNat:Int)] w (RX (Qj ⟨.up lf,s⟩ key.data.toList value) x d p L F w):=by
 have HA:=Aa (KA h key O);rw [if_neg h16]at HA;have HX:=Aa h;have hkl:=Q7 key;obtain⟨l0,l1,ok,FZ⟩:=h.L0;have Aha:16<=L:=Ψ ok.fits ok.BM
 obtain⟨JF,hrl⟩:=Tj ok O FZ hpa;have hwl:=PK hpa;rw [hkl]at hrl hwl;replace hrl:rest.length<=32:=O
 replace hwl:way.length<=33:=O
 have hpre:∀pl∈way,pl.nd.pre.length<=1000:=λpl hm=>Ω (((Bq _).1 (JF pl hm).right).1)
 have HPk:=Aa JF;have yt:=Aa hpre;have TW:=Aa (JY h key O);have aA:=Aa hpa;have hxl:=h.box.lt;have kX:=Aa h.sys.tabs.lt;have MC:=Aa h.sys.lt;have MX:=Aa hst;obtain⟨⟨j1,name,er⟩,hr⟩:∃r,Lh (rest.length+1) ⟨⟨.up lf,s⟩,[]⟩ rest value=r:=⟨_,rfl⟩;have HR:=Aa hr;have Avm:way.length=0:=by rw [hw0];rfl
 have HP:Hid (Qj ⟨.up lf,s⟩ key.data.toList value=Fe j1 er 72 name []):=Aa (by unfold Qj;rw [hkl,if_neg h16,if_neg hv0,hpa];simp only;rw [hst,hw0];simp only [List.getLast?_nil];rw [hr]);clear hst hw0 hr;have t1:((value.toNat:Int)==0)=false:=by
  rw [beq_eq_false_iff_ne];intro e;exact hv0 (Ec.1 (by simp;omega))
 clear h h16 hv0 hpa hkl ok FZ JF hpre;go_enter func71,ntmps71
 go_wp2_with fail
 refine HA.out.mono ?_;rintro e w1⟨rfl,rfl⟩;clear HA
 go_wp2_with fail
 refine TW.out.mono ?_;rintro e w1⟨hb1,hp1⟩;rw [aA.out]at hp1;obtain⟨vw,A,c,rfl,JE,hrs,hrc⟩:=hp1;have HW1:=Aa JE;have HR1:=Aa hrs;have HB1:=Aa hb1;clear JE hrs hb1 TW
 go_wp2_with fail
 refine(Ht HW1.out O yt.out HR1.out.1 O).mono ?_;rintro e w2⟨hb2,hp2⟩;rw [MX.out]at hp2;replace hp2:e= .returned (.tuple #[.agg #[.slice none 0 0,.int .u64 0,.slice none 0 0,.slice none 0 0,.int .i64 0,.int .u8 0,.int .i64 0],.bool false]):=hp2;subst hp2;obtain⟨Av,cv,hvw⟩:∃Av cv,vw= .slice Av way.length cv:=by
  obtain⟨vs,ho,_⟩:=HW1.out;rcases ho.2 with⟨e1,e2⟩| ⟨g,cap,cur,e1,_⟩
  ·exact⟨none,0,by rw [e1,e2]⟩
  ·exact⟨_,_,e1⟩
 subst hvw;have HB2:=Aa (τ HB1.out hb2);obtain⟨w3,hw3,Gn, -⟩:=EZ w2 214 [.slice none 0 0,.int .u64 0,.slice none 0 0,.slice none 0 0,.int .i64 0,.int .u8 0,.int .i64 0];obtain⟨w4,hw4,GI, -⟩:=EZ w3 219 [Az x,.slice none 0 0];have hs3:w3.heap.size=w2.heap.size+1:=by rw [hw3];simp
 have HB3:=Aa (τ HB2.out Gn);have HB4:=Aa (τ HB3.out GI);have hsz:=HB3.out.size;have hJ:=kV (q:=⟨.up lf,s⟩) (HX.out.below HB4.out) hw4 (λb hb=>Ω (MC.out b hb)) O (Ω kX.out);have HGj:Hid (∀b,(λb=>F b\/b=w3.heap.size) b->F b\/w.heap.size<=b):=Aa (λb hb=>hb.imp id (λe=>O));have Q8:η w1 w3:=τ hb2 Gn;have kY:=Qs.below HR1.out Q8;have hrd:Ja w4 (λb=>F b\/b=w3.heap.size) A rest.length (rest.map bv):=by
  refine Ja.below (w:=w3) ⟨kY.1,λhn a ea hg=> ?_⟩ GI;obtain⟨rb,ro,e',hrb,_⟩:=kY.1.2 hn;rw [e']at ea;injection ea with ea
  subst ea;rcases hg with hg| hg
  ·have:=(kY.2 _ _ e').1;have:=MC.out _ hg;simp only at this;omega
  ·simp only at hg;omega
 have HL:=VC (rest.length+1) w4 ⟨⟨.up lf,s⟩,[]⟩ _ rest value A c hJ hrd hrc O O (by simp only [Du];omega);rw [HR.out]at HL;have HL:=Aa HL;have HW3:=Aa hw3;have YE:=Aa hw4;have Ph:=Aa hs3;have hmd:=LG (rest.length+1) ⟨⟨.up lf,s⟩,[]⟩ rest value;rw [HR.out]at hmd;simp only [Du]at hmd;rw [Avm]at*;clear hb2 Gn GI hs3 hJ hrd kY Q8 hw3 hw4
 go_wp2_with fail
 rw [<-HW3.out,<-YE.out,<-Ph.out];refine HL.out.mono ?_;rintro e w5⟨rfl,G5,hj5,Qw⟩;have hfin:Calls prog 115 #[Az w3.heap.size,.int .i64 er,.int .i64 72,.int .u64 (name.toNat:Int),.slice none 0 0] w5 (Qz (Fe j1 er 72 name []) w3.heap.size w3.heap.size x d p L j1 G5 w5):=
  Q5 hj5 er 72 9 rfl O name none 0 [] Ja.nil (λo ho=>nomatch ho) (Nat.zero_le _) (by show j1.made.length<=1000;omega)
 have HFin:=Aa hfin;have RH:=Aa Qw;clear hfin Qw hj5 HL
 go_wp2_with fail
 first
  | refine HFin.out.mono ?_
  | (rw [<-Ph.out];refine HFin.out.mono ?_)
 rintro e w6⟨rfl,G6,hj6,VX⟩;have HD:=Aa (hj6.done (RH.out.trans VX) HB4.out HGj.out);clear hj6 VX HFin
 go_wp2_with fail
 go_ret;refine⟨by rw [HP.out];rfl,?_⟩;rw [HP.out];exact HD.out
end
def ax.mono{w:World}{G F:Nat->Prop}{a b c d:Value}{nd:Nd}(h:ax w G a b c d nd)(k:∀b,b<w.heap.size->F b->G b):ax w F a b c d nd:=by
 obtain⟨A1,c1,A2,c2,A3,c3,e1,e2,e3,e4,hc,h1,h2,h3⟩:=h;exact⟨A1,c1,A2,c2,A3,c3,e1,e2,e3,e4,hc,h1.mono k,h2.mono k,h3.mono k⟩
def yu(j:Jm)(x:Nd)(rest:List UInt8)(value:UInt64):(J3 j x rest value).1.made.length<=j.made.length+rest.length+4:=by
 have hl:=λj' l=>LG (rest.length+1) j' l value
 have hb:=Ir j {x with pre:=x.pre.drop (common x.pre rest+1)};unfold J3;split
 ·have:=hl j (rest.drop (common x.pre rest+1));split;rename_i j1 kid e he;rw [he]at this;have h2:=OB j1 x (rest.getD (common x.pre rest) 0) kid e;simp only at this;omega
 ·split;rename_i j1 kid e he;rw [he]at hb;simp only at hb;split
  ·have h2:=OB j1 ⟨x.pre.take (common x.pre rest),value,[],[]⟩ (x.pre.getD (common x.pre rest) 0) kid e;omega
  ·split
   ·simp only;omega
   ·split
    ·split;rename_i j2 Zc e2 he2;have:=hl j1 (rest.drop (common x.pre rest+1));rw [he2]at this;have h2:=OB j2 (Ic ⟨x.pre.take (common x.pre rest),0,[],[]⟩ (x.pre.getD (common x.pre rest) 0) kid) (rest.getD (common x.pre rest) 0) Zc e2;simp only at this;omega
    ·simp only;omega
section
variable{w:World}{x d p L:Nat}{s:St}{F:Nat->Prop}{lf:Int}
def Ahb(h:Jd (.up (MU lf)) w x d p L s F)(key:ByteArray)(h16:¬16<key.size)(value:UInt64)(hv0:value≠0)(way:List Pl)(rest:List UInt8)(hpa:FY s key.data.toList=some (way,rest))(hw0:way≠[])(hst:CZ way rest=none):
 Calls prog 71 #[Az x,.string key,.int .u64 (value.toNat:Int)] w (RX (Qj ⟨.up lf,s⟩ key.data.toList value) x d p L F w):=by
 have HA:=Aa (KA h key O);rw [if_neg h16]at HA;have HX:=Aa h;have hkl:=Q7 key;obtain⟨l0,l1,ok,FZ⟩:=h.L0;have Aha:16<=L:=Ψ ok.fits ok.BM
 obtain⟨JF,hrl⟩:=Tj ok O FZ hpa;have hwl:=PK hpa;rw [hkl]at hrl hwl;replace hrl:rest.length<=32:=O
 replace hwl:way.length<=33:=O
 have hpre:∀pl∈way,pl.nd.pre.length<=1000:=λpl hm=>Ω (((Bq _).1 (JF pl hm).right).1)
 have HPk:=Aa JF;have yt:=Aa hpre;have TW:=Aa (JY h key O);have aA:=Aa hpa;have hxl:=h.box.lt;have kX:=Aa h.sys.tabs.lt;have MC:=Aa h.sys.lt;have hn0:0<way.length:=List.length_pos_iff.2 hw0;obtain⟨last,hla⟩:∃last,way[way.length-1]' O=last:=⟨_,rfl⟩;have hgl:way.getLast? =some last:=by rw [List.getLast?_eq_getElem?,List.getElem?_eq_getElem O,hla]
 have hne:last.nd.pre≠rest:=by
  intro e;unfold CZ at hst;rw [hgl]at hst;simp only at hst;rw [if_pos e]at hst;cases hst
 have qG:=Aa (JF last (Nb hgl));have HLa:=Aa hla;have HNe:=Aa hne;have MX:=Aa hst;obtain⟨⟨j1,name,er⟩,hr⟩:∃r,J3 ⟨⟨.up lf,s⟩,[]⟩ last.nd rest value=r:=⟨_,rfl⟩;have HR:=Aa hr;have HP:Hid (Qj ⟨.up lf,s⟩ key.data.toList value=Fe j1 er last.word name [last.off]):=Aa (by unfold Qj;rw [hkl,if_neg h16,if_neg hv0,hpa];simp only;rw [hst,hgl];simp only;rw [hr]);have hmd:=yu ⟨⟨.up lf,s⟩,[]⟩ last.nd rest value;rw [hr]at hmd;simp only [Du]at hmd;clear hst hr hla hgl hne;have t1:((value.toNat:Int)==0)=false:=by
  rw [beq_eq_false_iff_ne];intro e;exact hv0 (Ec.1 (by simp;omega))
 clear h h16 hv0 hpa hkl ok FZ JF hpre;go_enter func71,ntmps71
 go_wp2_with fail
 refine HA.out.mono ?_;rintro e w1⟨rfl,rfl⟩;clear HA
 go_wp2_with fail
 refine TW.out.mono ?_;rintro e w1⟨hb1,hp1⟩;rw [aA.out]at hp1;obtain⟨vw,A,c,rfl,JE,hrs,hrc⟩:=hp1;have HW1:=Aa JE;have HR1:=Aa hrs;have HB1:=Aa hb1;clear JE hrs hb1 TW
 go_wp2_with fail
 refine(Ht HW1.out O yt.out HR1.out.1 O).mono ?_;rintro e w2⟨hb2,hp2⟩;rw [MX.out]at hp2;replace hp2:e= .returned (.tuple #[.agg #[.slice none 0 0,.int .u64 0,.slice none 0 0,.slice none 0 0,.int .i64 0,.int .u8 0,.int .i64 0],.bool false]):=hp2;subst hp2;obtain⟨g,cv,rfl,hcv,hbg,hgw,hat⟩:=HW1.out.at hw0;obtain⟨a,b,c',d',hwc⟩:=hat (way.length-1) O;rw [show way[way.length-1]' O=last from HLa.out]at hwc;have HB2:=Aa (τ HB1.out hb2);obtain⟨w3,hw3,Gn, -⟩:=EZ w2 214 [.slice none 0 0,.int .u64 0,.slice none 0 0,.slice none 0 0,.int .i64 0,.int .u8 0,.int .i64 0];obtain⟨w4,hw4,GI, -⟩:=EZ w3 219 [Az x,.slice none 0 0];have hs3:w3.heap.size=w2.heap.size+1:=by rw [hw3];simp
 have HB3:=Aa (τ HB2.out Gn);have HB4:=Aa (τ HB3.out GI);have hsz:=HB3.out.size;have hJ:=kV (q:=⟨.up lf,s⟩) (HX.out.below HB4.out) hw4 (λb hb=>Ω (MC.out b hb)) O (Ω kX.out);have HGj:Hid (∀b,(λb=>F b\/b=w3.heap.size) b->F b\/w.heap.size<=b):=Aa (λb hb=>hb.imp id (λe=>O));have Q8:η w1 w3:=τ hb2 Gn;have kY:=Qs.below HR1.out Q8;have t0:((way.length:Int)==0)=false:=by rw [beq_eq_false_iff_ne];omega
 obtain⟨m,hm⟩:∃m,m=way.length-1:=⟨_,rfl⟩;have hwm:IntKind.i64.wrap ((way.length:Int) -1)=(m:Int):=(wrap64 _ O O).trans O;have hx1:decide ((m:Int)<(way.length:Int))=true:=decide_eq_true O;have hx2:m<way.length:=O
 have hx3:(m:Int)<(way.length:Int):=O
 have Yv:η w1 w4:=τ Q8 GI;obtain⟨A1,p1,A2,p2,A3,p3,e,o1,o2,o3⟩:=hwc.nd;simp only [Value.agg.injEq]at e;simp at e;obtain⟨rfl,rfl,rfl,rfl⟩:=e;have hz:∀j v,[Value.slice A1 last.nd.pre.length p1,.int .u64 (last.nd.val.toNat:Int),.slice A2 last.nd.labels.length p2,.slice A3 last.nd.kids.length p3,.int .i64 last.off,.int .u8 (last.label.toNat:Int),.int .i64 last.word][j]? =some v->w4.cell? (Δ g (m*7+j))=some v:=λj v hj=>by
  rw [Yv.cell (p:=Δ g (m*7+j)) hgw,Nat.mul_comm,hm];exact hwc.cells j v hj
 have z0:=hz 0 _ rfl;have z1:=hz 1 _ rfl;have z2:=hz 2 _ rfl;have z3:=hz 3 _ rfl;have z4:=hz 4 _ rfl;have z5:=hz 5 _ rfl;have z6:=hz 6 _ rfl;rw [Nat.add_zero]at z0;have hnr:ax w4 (λb=>F b\/b=w3.heap.size) (.slice A1 last.nd.pre.length p1) (.int .u64 (last.nd.val.toNat:Int)) (.slice A2 last.nd.labels.length p2) (.slice A3 last.nd.kids.length p3) last.nd:=by
  have q0:ax w2 F _ _ _ _ last.nd:=ax.Asb (hwc.nd.below hb2) (λb hb _ hf=>Ω (MC.out b hf));have q1:ax w2 (λb=>F b\/b=w3.heap.size) _ _ _ _ last.nd:=q0.mono (λb hb hg=>hg.elim id (λe=>by first| omega| (simp only at e;omega)));exact q1.moved (AP.of_below (τ Gn GI))
 have hrd:Ja w4 (λb=>F b\/b=w3.heap.size) A rest.length (rest.map bv):=by
  refine Ja.below (w:=w3) ⟨kY.1,λhn a ea hg=> ?_⟩ GI;obtain⟨rb,ro,e',hrb,_⟩:=kY.1.2 hn;rw [e']at ea;injection ea with ea
  subst ea;rcases hg with hg| hg
  ·have:=(kY.2 _ _ e').1;have:=MC.out _ hg;simp only at this;omega
  ·simp only at hg;omega
 obtain⟨w5,hw5,OX,B5⟩:=EZ w4 214 [.slice A1 last.nd.pre.length p1,.int .u64 (last.nd.val.toNat:Int),.slice A2 last.nd.labels.length p2,.slice A3 last.nd.kids.length p3,.int .i64 last.off,.int .u8 (last.label.toNat:Int),.int .i64 last.word];have hpl:=qG.out;have Asw:=((Bq _).1 hpl.right).1;have Asx:=hpl.kids;have Asy:=hpl.labels;have HGr:=Ag9 (hJ.below OX) last.nd A1 A2 A3 p1 p2 p3 last.off last.word last.label rest A c value (hnr.moved (AP.of_below OX)) O O O (hrd.below OX) hrc O Θ HNe.out;rw [HR.out]at HGr;have HGr:=Aa HGr;have HJl:=Aa hJ.lt;have HW3:=Aa hw3;have YE:=Aa hw4;have HW5:=Aa hw5;have Ph:=Aa hs3;have hs4:w4.heap.size=w2.heap.size+2:=by rw [hw4];simp;omega
 have ni:=Aa hs4;have Jz:=Aa (τ HB4.out OX);have HK5:=Aa B5;rw [hw4,hw3]at z0 z1 z2 z3 z4 z5 z6;clear hb2 Gn GI hs3 hs4 hJ hrd kY Q8 Yv hw3 hw4 hw5 OX B5 hz hwc hat o1 o2 o3 hnr hm hpl
 go_wp2_with fail
 rw [<-HW3.out,<-YE.out,<-HW5.out,<-Ph.out];refine HGr.out.mono ?_;rintro e w6⟨rfl,G6,hj6,VX⟩;have B6:=HK5.out.touch VX.touch (λhg=>Ω (HJl.out _ hg));obtain⟨w7,hw7,Aod, -⟩:=EZ w6 3 [.int .i64 last.off];have B7:CS w7 w6.heap.size 3 [zv last.off]:=hw7▸heap_alloc_new _ _;have hO:Ja w7 G6 (some (Φ w6.heap.size)) 1 ([last.off].map zv):=⟨B7.rd,λ_ a ea hg=>by
  injection ea with ea
  subst ea;exact absurd (hj6.lt _ hg) (Nat.lt_irrefl _)⟩
 have hfin:Calls prog 115 #[Az w3.heap.size,.int .i64 er,.int .i64 last.word,.int .u64 (name.toNat:Int),.slice (some (Φ w6.heap.size)) 1 1] w7 (Qz (Fe j1 er last.word name [last.off]) w3.heap.size w3.heap.size x d p L j1 G6 w7):=by
  obtain⟨jw,dU,hjl⟩:=qG.out.word;obtain⟨o,ho,hol⟩:=qG.out.off;exact Q5 (hj6.below Aod) er last.word jw dU hjl name _ 1 [last.off] hO (λo' ho'=>by rw [List.mem_singleton]at ho';omega) Θ (by show j1.made.length<=1000;omega)
 have HFin:=Aa hfin;have YF:=Aa (VX.trans (AP.of_below Aod));have HW7:=Aa hw7;have Me:=Aa B6;clear z0 z1 z2 z3 z4 z5 z6 VX hj6 Aod B7 hO hfin hw7 HGr B6;obtain⟨y0,y1,y2,y3,y4,y5,y6⟩:=EI Me.out;rw [ni.out]at y0 y1 y2 y3 y4 y5 y6;rw [Ph.out]
 go_wp2_with fail
 rw [<-HW7.out,<-Ph.out];refine HFin.out.mono ?_;rintro e w8⟨rfl,G8,hj8,WN⟩;have HD:=Aa (hj8.done (YF.out.trans WN) Jz.out HGj.out);clear hj8 WN HFin
 go_wp2_with fail
 go_ret;refine⟨by rw [HP.out];rfl,?_⟩;rw [HP.out];exact HD.out
def yw(h:Jd (.up (MU lf)) w x d p L s F)(key:ByteArray)(hk:key.size<=1000)(value:UInt64):
 Calls prog 71 #[Az x,.string key,.int .u64 (value.toNat:Int)] w (RX (Qj ⟨.up lf,s⟩ key.data.toList value) x d p L F w):=by
 by_cases h16:16<key.size
 ·exact WS h key hk value (.inl h16)
 ·by_cases hv0:value=0
  ·exact WS h key hk value (.inr (.inl hv0))
  ·cases hp:FY s key.data.toList with
   | none=>exact WS h key hk value (.inr (.inr hp))
   | some wr=>
     obtain⟨way,rest⟩:=wr;cases hst:CZ way rest with
     | some last=>exact Ac8 h key h16 value hv0 way rest hp last hst
     | none=>
       by_cases hw0:way=[]
       ·exact Ac9 h key h16 value hv0 way rest hp hw0 hst
       ·exact Ahb h key h16 value hv0 way rest hp hw0 hst
def WT(h:Ix w x d p L s F)(key:ByteArray)(hk:key.size<=1000)(value:UInt64):
 Calls prog 71 #[Az x,.string key,.int .u64 (value.toNat:Int)] w (kW (KJ s key.data.toList value) x d p L F w):=by
 have:=yw (lf:= -1) h key hk value;rw [Agc]at this;exact this
end
section
variable{len:Mode}{w:World}{x d p L:Nat}{s:St}{F:Nat->Prop}
def GetPost(r:UInt64×Int)(w:World)(e:Ending)(w':World):Prop:=e= .returned (.tuple #[.int .u64 (r.1.toNat:Int),.int .i64 r.2])/\η w w'
def Akt(r:St×UInt64×Int)(x d p L:Nat)(F:Nat->Prop)(w:World)(e:Ending)(w':World):Prop:=
 e= .returned (.tuple #[.int .u64 (r.2.1.toNat:Int),.int .i64 r.2.2])/\∃F',Ix w' x d p L r.1 F'/\AP F F' w w'
def aP(r:Ms×UInt64×Int)(x d p L:Nat)(F:Nat->Prop)(w:World)(e:Ending)(w':World):Prop:=
 e= .returned (.tuple #[.int .u64 (r.2.1.toNat:Int),.int .i64 r.2.2])/\∃F',IxM w' x d p L r.1 F'/\AP F F' w w'
def WU (h : Jd len w x d p L s F) (key : ByteArray) (hk : key.size <= 1000) :
    Calls prog 140 #[Az x, .string key] w (GetPost (Gy s key.data.toList) w) := by
  have HX := Aa h
  have HA := Aa (KA h key O)
  have hkl := Q7 key
  by_cases h16 : 16 < key.size
  · rw [if_pos h16] at HA
    have HP : Hid (Gy s key.data.toList = (0, 3)) := Aa (by unfold Gy; rw [hkl, if_pos h16])
    clear h hkl
    go_enter func140, ntmps140
    go_wp2_with fail
    refine HA.out.mono ?_
    rintro e w1 ⟨rfl, rfl⟩
    go_wp2_with fail
    go_ret2
    exact ⟨by rw [HP.out]; rfl, (Below.refl _ _)⟩
  · rw [if_neg h16] at HA
    obtain ⟨l0, l1, ok, FZ⟩ := h.L0
    have Aha : 16 <= L := by have := ok.fits; have := ok.BM; omega
    have TW := Aa (JY h key O)
    cases hpa : FY s key.data.toList with
    | none =>
      have HP : Hid (Gy s key.data.toList = (0, 5)) := Aa (by unfold Gy; rw [hkl, if_neg h16, hpa])
      have aA := Aa hpa
      clear h hkl ok FZ hpa
      go_enter func140, ntmps140
      go_wp2_with fail
      refine HA.out.mono ?_
      rintro e w1 ⟨rfl, rfl⟩
      clear HA
      go_wp2_with fail
      refine TW.out.mono ?_
      rintro e w1 ⟨hb1, hp1⟩
      rw [aA.out] at hp1
      replace hp1 : e = .returned (.tuple #[.slice none 0 0, .slice none 0 0, .int .i64 5]) := hp1
      subst hp1
      have HB1 := Aa hb1
      clear TW hb1
      go_wp2_with fail
      go_ret2
      exact ⟨by rw [HP.out]; rfl, HB1.out⟩
    | some wr =>
      obtain ⟨way, rest⟩ := wr
      obtain ⟨JF, hrl⟩ := Tj ok O FZ hpa
      have hwl := PK hpa
      rw [hkl] at hrl hwl
      replace hrl : rest.length <= 32 := O
      replace hwl : way.length <= 33 := O
      have hpre : ∀ pl ∈ way, pl.nd.pre.length <= 1000 := λpl hm => by have := ((Bq _).1 (JF pl hm).right).1; omega
      have HPk := Aa JF
      have yt := Aa hpre
      have aA := Aa hpa
      have hxl := h.box.lt
      have kX := Aa h.sys.tabs.lt
      have MC := Aa h.sys.lt
      cases hst : CZ way rest with
      | none =>
        have HP : Hid (Gy s key.data.toList = (0, 7)) := Aa (by unfold Gy; rw [hkl, if_neg h16, hpa]; simp only; rw [hst])
        have MX := Aa hst
        clear h hkl ok FZ hpa hst JF hpre
        go_enter func140, ntmps140
        go_wp2_with fail
        refine HA.out.mono ?_
        rintro e w1 ⟨rfl, rfl⟩
        clear HA
        go_wp2_with fail
        refine TW.out.mono ?_
        rintro e w1 ⟨hb1, hp1⟩
        rw [aA.out] at hp1
        obtain ⟨vw, A, c, rfl, JE, hrs, hrc⟩ := hp1
        have HW1 := Aa JE
        have HR1 := Aa hrs
        have HB1 := Aa hb1
        clear JE hrs hb1 TW
        go_wp2_with fail
        refine (Ht HW1.out O yt.out HR1.out.1 O).mono ?_
        rintro e w2 ⟨hb2, hp2⟩
        rw [MX.out] at hp2
        replace hp2 : e = .returned (.tuple #[.agg #[.slice none 0 0, .int .u64 0, .slice none 0 0, .slice none 0 0, .int .i64 0, .int .u8 0, .int .i64 0], .bool false]) := hp2
        subst hp2
        have HB2 := Aa (τ HB1.out hb2)
        clear hb2
        have HB3 : Hid (η w (w2.alloc (.cells #[.slice none 0 0, .int .u64 0, .slice none 0 0, .slice none 0 0, .int .i64 0, .int .u8 0, .int .i64 0] 214))) := Aa (HB2.out.alloc HB2.out.size _)
        go_wp2_with fail
        go_ret2
        exact ⟨by rw [HP.out]; rfl, HB3.out⟩
      | some last =>
        have hmem : last ∈ way := by
          unfold CZ at hst
          split at hst
          · cases hst
          · rename_i l hl
            split at hst
            · injection hst with hst; subst hst; exact Nb hl
            · cases hst
        have qG := Aa (JF last hmem)
        have MX := Aa hst
        by_cases hv0 : last.nd.val = 0
        · have HP : Hid (Gy s key.data.toList = (0, 7)) := Aa (by unfold Gy; rw [hkl, if_neg h16, hpa]; simp only; rw [hst]; simp only; rw [if_pos hv0])
          have t1 : ((last.nd.val.toNat : Int) == 0) = true := by rw [hv0]; rfl
          clear h hkl ok FZ hpa hst JF hpre hmem
          go_enter func140, ntmps140
          go_wp2_with fail
          refine HA.out.mono ?_
          rintro e w1 ⟨rfl, rfl⟩
          clear HA
          go_wp2_with fail
          refine TW.out.mono ?_
          rintro e w1 ⟨hb1, hp1⟩
          rw [aA.out] at hp1
          obtain ⟨vw, A, c, rfl, JE, hrs, hrc⟩ := hp1
          have HW1 := Aa JE
          have HR1 := Aa hrs
          have HB1 := Aa hb1
          clear JE hrs hb1 TW
          go_wp2_with fail
          refine (Ht HW1.out O yt.out HR1.out.1 O).mono ?_
          rintro e w2 ⟨hb2, hp2⟩
          rw [MX.out] at hp2
          obtain ⟨a, b, c', d', rfl, hnd⟩ := hp2
          obtain ⟨A1, m1, A2, m2, A3, m3, e, o1, o2, o3⟩ := hnd
          simp only [Value.agg.injEq] at e
          simp at e
          obtain ⟨rfl, rfl, rfl, rfl⟩ := e
          have HB2 := Aa (τ HB1.out hb2)
          obtain ⟨W3, hW3, hb3, B3⟩ := EZ w2 214 [.slice A1 last.nd.pre.length m1, .int .u64 (last.nd.val.toNat : Int), .slice A2 last.nd.labels.length m2, .slice A3 last.nd.kids.length m3, .int .i64 last.off, .int .u8 (last.label.toNat : Int), .int .i64 last.word]
          have HB3 := Aa (τ HB2.out hb3)
          have HW3 := Aa hW3
          obtain ⟨y0, y1, y2, y3, y4, y5, y6⟩ := EI B3
          rw [hW3] at y0 y1 y2 y3 y4 y5 y6
          rw [hW3] at HB3
          clear o1 o2 o3 hb2 hb3 B3 hW3 HW3
          go_wp2_with fail
          go_ret2
          have HBz := HB3.out
          rw [hv0] at HBz
          exact ⟨by rw [HP.out]; rfl, HBz⟩
        · have t1 : ((last.nd.val.toNat : Int) == 0) = false := by
            rw [beq_eq_false_iff_ne]; intro e; exact hv0 (Ec.1 (by simp; omega))
          have HP : Hid (Gy s key.data.toList = (last.nd.val, 0)) := Aa (by unfold Gy; rw [hkl, if_neg h16, hpa]; simp only; rw [hst]; simp only; rw [if_neg hv0])
          clear h hkl ok FZ hpa hst JF hpre hmem
          go_enter func140, ntmps140
          go_wp2_with fail
          refine HA.out.mono ?_
          rintro e w1 ⟨rfl, rfl⟩
          clear HA
          go_wp2_with fail
          refine TW.out.mono ?_
          rintro e w1 ⟨hb1, hp1⟩
          rw [aA.out] at hp1
          obtain ⟨vw, A, c, rfl, JE, hrs, hrc⟩ := hp1
          have HW1 := Aa JE
          have HR1 := Aa hrs
          have HB1 := Aa hb1
          clear JE hrs hb1 TW
          go_wp2_with fail
          refine (Ht HW1.out O yt.out HR1.out.1 O).mono ?_
          rintro e w2 ⟨hb2, hp2⟩
          rw [MX.out] at hp2
          obtain ⟨a, b, c', d', rfl, hnd⟩ := hp2
          obtain ⟨A1, m1, A2, m2, A3, m3, e, o1, o2, o3⟩ := hnd
          simp only [Value.agg.injEq] at e
          simp at e
          obtain ⟨rfl, rfl, rfl, rfl⟩ := e
          have HB2 := Aa (τ HB1.out hb2)
          obtain ⟨W3, hW3, hb3, B3⟩ := EZ w2 214 [.slice A1 last.nd.pre.length m1, .int .u64 (last.nd.val.toNat : Int), .slice A2 last.nd.labels.length m2, .slice A3 last.nd.kids.length m3, .int .i64 last.off, .int .u8 (last.label.toNat : Int), .int .i64 last.word]
          have HB3 := Aa (τ HB2.out hb3)
          have HW3 := Aa hW3
          obtain ⟨y0, y1, y2, y3, y4, y5, y6⟩ := EI B3
          rw [hW3] at y0 y1 y2 y3 y4 y5 y6
          rw [hW3] at HB3
          clear o1 o2 o3 hb2 hb3 B3 hW3 HW3
          go_wp2_with fail
          go_ret2
          exact ⟨by rw [HP.out]; rfl, HB3.out⟩
def yz {lf : Int} (h : Jd (.up (MU lf)) w x d p L s F) (key : ByteArray) (hk : key.size <= 1000) (hkids : ∀ way rest last, FY s key.data.toList = some (way, rest) -> CZ way rest = some last -> last.nd.val ≠ 0 -> ¬ 16 < key.size -> ¬ last.nd.kids.length = 0) :
    Calls prog 70 #[Az x, .string key] w (aP (RJ ⟨.up lf, s⟩ key.data.toList) x d p L F w) := by
  have HX := Aa h
  have HA := Aa (KA h key O)
  have hkl := Q7 key
  by_cases h16 : 16 < key.size
  · rw [if_pos h16] at HA
    have HP : Hid (RJ ⟨.up lf, s⟩ key.data.toList = (⟨.up lf, s⟩, 0, 3)) := Aa (by unfold RJ; rw [hkl, if_pos h16])
    clear h hkl hkids
    go_enter func70, ntmps70
    go_wp2_with fail
    refine HA.out.mono ?_
    rintro e w1 ⟨rfl, rfl⟩
    go_wp2_with fail
    go_ret2
    refine ⟨by rw [HP.out]; rfl, F, ?_, AP.of_below (Below.refl _ _)⟩
    rw [HP.out]
    exact HX.out.below (Below.refl _ _)
  · rw [if_neg h16] at HA
    obtain ⟨l0, l1, ok, FZ⟩ := h.L0
    have Aha : 16 <= L := by have := ok.fits; have := ok.BM; omega
    have TW := Aa (JY h key O)
    cases hpa : FY s key.data.toList with
    | none =>
      have HP : Hid (RJ ⟨.up lf, s⟩ key.data.toList = (⟨.up lf, s⟩, 0, 5)) := Aa (by unfold RJ; rw [hkl, if_neg h16, hpa])
      have aA := Aa hpa
      clear h hkl ok FZ hpa hkids
      go_enter func70, ntmps70
      go_wp2_with fail
      refine HA.out.mono ?_
      rintro e w1 ⟨rfl, rfl⟩
      clear HA
      go_wp2_with fail
      refine TW.out.mono ?_
      rintro e w1 ⟨hb1, hp1⟩
      rw [aA.out] at hp1
      replace hp1 : e = .returned (.tuple #[.slice none 0 0, .slice none 0 0, .int .i64 5]) := hp1
      subst hp1
      have HB1 := Aa hb1
      clear TW hb1
      go_wp2_with fail
      go_ret2
      refine ⟨by rw [HP.out]; rfl, F, ?_, AP.of_below HB1.out⟩
      rw [HP.out]
      exact HX.out.below HB1.out
    | some wr =>
      obtain ⟨way, rest⟩ := wr
      obtain ⟨JF, hrl⟩ := Tj ok O FZ hpa
      have hwl := PK hpa
      rw [hkl] at hrl hwl
      replace hrl : rest.length <= 32 := O
      replace hwl : way.length <= 33 := O
      have hpre : ∀ pl ∈ way, pl.nd.pre.length <= 1000 := λpl hm => by have := ((Bq _).1 (JF pl hm).right).1; omega
      have HPk := Aa JF
      have yt := Aa hpre
      have aA := Aa hpa
      have hxl := h.box.lt
      have kX := Aa h.sys.tabs.lt
      have MC := Aa h.sys.lt
      cases hst : CZ way rest with
      | none =>
        have HP : Hid (RJ ⟨.up lf, s⟩ key.data.toList = (⟨.up lf, s⟩, 0, 7)) := Aa (by unfold RJ; rw [hkl, if_neg h16, hpa]; simp only; rw [hst])
        have MX := Aa hst
        clear h hkl ok FZ hpa hst JF hpre hkids
        go_enter func70, ntmps70
        go_wp2_with fail
        refine HA.out.mono ?_
        rintro e w1 ⟨rfl, rfl⟩
        clear HA
        go_wp2_with fail
        refine TW.out.mono ?_
        rintro e w1 ⟨hb1, hp1⟩
        rw [aA.out] at hp1
        obtain ⟨vw, A, c, rfl, JE, hrs, hrc⟩ := hp1
        have HW1 := Aa JE
        have HR1 := Aa hrs
        have HB1 := Aa hb1
        clear JE hrs hb1 TW
        go_wp2_with fail
        refine (Ht HW1.out O yt.out HR1.out.1 O).mono ?_
        rintro e w2 ⟨hb2, hp2⟩
        rw [MX.out] at hp2
        replace hp2 : e = .returned (.tuple #[.agg #[.slice none 0 0, .int .u64 0, .slice none 0 0, .slice none 0 0, .int .i64 0, .int .u8 0, .int .i64 0], .bool false]) := hp2
        subst hp2
        have HB2 := Aa (τ HB1.out hb2)
        clear hb2
        have HB3 : Hid (η w (w2.alloc (.cells #[.slice none 0 0, .int .u64 0, .slice none 0 0, .slice none 0 0, .int .i64 0, .int .u8 0, .int .i64 0] 214))) := Aa (HB2.out.alloc HB2.out.size _)
        go_wp2_with fail
        go_ret2
        refine ⟨by rw [HP.out]; rfl, F, ?_, AP.of_below HB3.out⟩
        rw [HP.out]
        exact HX.out.below HB3.out
      | some last =>
        have hmem : last ∈ way := by
          unfold CZ at hst
          split at hst
          · cases hst
          · rename_i l hl
            split at hst
            · injection hst with hst; subst hst; exact Nb hl
            · cases hst
        have qG := Aa (JF last hmem)
        have MX := Aa hst
        by_cases hv0 : last.nd.val = 0
        · have HP : Hid (RJ ⟨.up lf, s⟩ key.data.toList = (⟨.up lf, s⟩, 0, 7)) := Aa (by unfold RJ; rw [hkl, if_neg h16, hpa]; simp only; rw [hst]; simp only; rw [if_pos hv0])
          have t1 : ((last.nd.val.toNat : Int) == 0) = true := by rw [hv0]; rfl
          clear h hkl ok FZ hpa hst JF hpre hmem hkids
          go_enter func70, ntmps70
          go_wp2_with fail
          refine HA.out.mono ?_
          rintro e w1 ⟨rfl, rfl⟩
          clear HA
          go_wp2_with fail
          refine TW.out.mono ?_
          rintro e w1 ⟨hb1, hp1⟩
          rw [aA.out] at hp1
          obtain ⟨vw, A, c, rfl, JE, hrs, hrc⟩ := hp1
          have HW1 := Aa JE
          have HR1 := Aa hrs
          have HB1 := Aa hb1
          clear JE hrs hb1 TW
          go_wp2_with fail
          refine (Ht HW1.out O yt.out HR1.out.1 O).mono ?_
          rintro e w2 ⟨hb2, hp2⟩
          rw [MX.out] at hp2
          obtain ⟨a, b, c', d', rfl, hnd⟩ := hp2
          obtain ⟨A1, m1, A2, m2, A3, m3, e, o1, o2, o3⟩ := hnd
          simp only [Value.agg.injEq] at e
          simp at e
          obtain ⟨rfl, rfl, rfl, rfl⟩ := e
          have HB2 := Aa (τ HB1.out hb2)
          obtain ⟨W3, hW3, hb3, B3⟩ := EZ w2 214 [.slice A1 last.nd.pre.length m1, .int .u64 (last.nd.val.toNat : Int), .slice A2 last.nd.labels.length m2, .slice A3 last.nd.kids.length m3, .int .i64 last.off, .int .u8 (last.label.toNat : Int), .int .i64 last.word]
          have HB3 := Aa (τ HB2.out hb3)
          have HW3 := Aa hW3
          obtain ⟨y0, y1, y2, y3, y4, y5, y6⟩ := EI B3
          rw [hW3] at y0 y1 y2 y3 y4 y5 y6
          rw [hW3] at HB3
          clear o1 o2 o3 hb2 hb3 B3 hW3 HW3
          go_wp2_with fail
          go_ret2
          have HBz := HB3.out
          rw [hv0] at HBz
          refine ⟨by rw [HP.out]; rfl, F, ?_, AP.of_below HBz⟩
          rw [HP.out]
          exact HX.out.below HBz
        · have t1 : ((last.nd.val.toNat : Int) == 0) = false := by
            rw [beq_eq_false_iff_ne]; intro e; exact hv0 (Ec.1 (by simp; omega))
          have hk0 := hkids way rest last hpa hst hv0 h16
          obtain ⟨⟨q2, vc⟩, hvr⟩ : ∃ R, Ob ⟨.up lf, s⟩ last 0 = R := ⟨_, rfl⟩
          have HVr := Aa hvr
          have HP : Hid (RJ ⟨.up lf, s⟩ key.data.toList = if vc = 0 then (q2, last.nd.val, 0) else (q2, 0, vc)) := Aa (by unfold RJ; rw [hkl, if_neg h16]; simp only [hpa, hst, if_neg hv0, if_neg hk0, if_true, hvr])
          clear hvr
          have t2 : ((last.nd.kids.length : Int) == 0) = false := by rw [beq_eq_false_iff_ne]; omega
          clear h hkl ok FZ hpa hst JF hpre hmem hkids
          go_enter func70, ntmps70
          go_wp2_with fail
          refine HA.out.mono ?_
          rintro e w1 ⟨rfl, rfl⟩
          clear HA
          go_wp2_with fail
          refine TW.out.mono ?_
          rintro e w1 ⟨hb1, hp1⟩
          rw [aA.out] at hp1
          obtain ⟨vw, A, c, rfl, JE, hrs, hrc⟩ := hp1
          have HW1 := Aa JE
          have HR1 := Aa hrs
          have HB1 := Aa hb1
          clear JE hrs hb1 TW
          go_wp2_with fail
          refine (Ht HW1.out O yt.out HR1.out.1 O).mono ?_
          rintro e w2 ⟨hb2, hp2⟩
          rw [MX.out] at hp2
          obtain ⟨a, b, c', d', rfl, hnd⟩ := hp2
          obtain ⟨A1, m1, A2, m2, A3, m3, e, o1, o2, o3⟩ := hnd
          simp only [Value.agg.injEq] at e
          simp at e
          obtain ⟨rfl, rfl, rfl, rfl⟩ := e
          have HB2 := Aa (τ HB1.out hb2)
          obtain ⟨W3, hW3, hb3, B3⟩ := EZ w2 214 [.slice A1 last.nd.pre.length m1, .int .u64 (last.nd.val.toNat : Int), .slice A2 last.nd.labels.length m2, .slice A3 last.nd.kids.length m3, .int .i64 last.off, .int .u8 (last.label.toNat : Int), .int .i64 last.word]
          have HB3 := Aa (τ HB2.out hb3)
          have HV := Qx (q := ⟨.up lf, s⟩) (HX.out.below HB3.out) last (qG.out) A1 A2 A3 last.nd.pre.length m1 last.nd.labels.length m2 last.nd.kids.length m3 0
          rw [HVr.out] at HV
          have HV := Aa HV
          have HW3 := Aa hW3
          obtain ⟨y0, y1, y2, y3, y4, y5, y6⟩ := EI B3
          have OC := Aa B3
          rw [hW3] at y0 y1 y2 y3 y4 y5 y6
          clear o1 o2 o3 hb2 hb3 B3 hW3
          go_wp2_with fail
          rw [<- HW3.out]
          refine HV.out.mono ?_
          rintro e w4 ⟨rfl, F4, hx4, hm4⟩
          have HF := Aa (And.intro hx4 ((AP.of_below (F := F) HB3.out).trans hm4))
          have B4 := OC.out.touch hm4.touch (λhg => by have := MC.out _ hg; have := HB2.out.size; omega)
          obtain ⟨z0, z1, z2, z3, z4, z5, z6⟩ := EI B4
          clear hx4 hm4 y0 y1 y2 y3 y4 y5 y6 HV HW3 B4 OC
          by_cases hvc : vc = 0
          · subst hvc
            rw [if_pos rfl] at HP
            go_wp2_with fail
            go_ret2
            refine ⟨by rw [HP.out]; rfl, F4, ?_, HF.out.2⟩
            rw [HP.out]
            exact HF.out.1
          · rw [if_neg hvc] at HP
            have t8 : (vc == 0) = false := by rw [beq_eq_false_iff_ne]; exact hvc
            have t9 : (vc != 0) = true := by rw [bne_iff_ne]; exact hvc
            clear hvc
            go_wp2_with fail
            go_ret2
            refine ⟨by rw [HP.out]; rfl, F4, ?_, HF.out.2⟩
            rw [HP.out]
            exact HF.out.1
end
