import Derived.Test.YtjcppneoncpdbaaGreatDoorG25
open List renaming mem_cons_self->Bv,mem_cons_of_mem->Bz,getElem_set->JO,length_set->CX,getD_eq_getElem?_getD->Bh,getElem?_eq_getElem->Ag,drop_eq_getElem_cons->Fz,append_assoc->AV,nodup_cons->GU,nodup_append->CW,getElem?_map->BO,getElem?_range->Si,cons_append->Ci,length_append->AQ,mem_append->AL,mem_map->BX,length_drop->AO,getElem_drop->VY,ext_getElem->Ew,getElem_set_self->Qn,getElem_set_ne->sU,mem_flatten->WY,map_cons->Cf,foldl_cons->QR,mem_cons->D9,nil_append->Et,mem_singleton->BD,mem_append_right->Bo,mem_append_left->BB,append_cancel_left->Ec,length_eq_one_iff->gY,append_nil->YL,map_nil->FY
open Int renaming toNat_natCast->BQ,ofNat->CE
open Nat renaming le_refl->Ae
open Option renaming map_eq_some_iff->OV
namespace Go.Proofs.YtjcppneoncpdbaaGreatDoor
theorem JL(ws:Nat->UInt64)(j n t:Nat)(h:t<(wordsAt ws j n).length):(wordsAt ws j n)[t]=ws (j+t):=by
 simp [wordsAt]
theorem QG:∀(ls:List UInt8)(ks:List UInt64)(row:List UInt64)(j:Nat)(k:UInt64),(∀b∈ls,4+b.toNat≠j)->CO (row.set j k) ls ks=(CO row ls ks).set j k
 | [],ks,row,j,k,_=>by cases ks<;>simp [CO]
 | a::ls,[],row,j,k,_=>by simp [CO]
 | a::ls,k0::ks,row,j,k,h=>by
   rw [CO,CO,<-List.set_comm _ _ (h a (Bv ..)),QG ls ks _ j k (fun b hb=>h b (Bz _ hb))]
theorem QH:∀(ls:List UInt8)(ks:List UInt64)(row:List UInt64)(i:Nat)(k:UInt64)(h1:i<ls.length),ls.length=ks.length->DD ls=true->CO row ls (ks.set i k)=(CO row ls ks).set (4+ls[i].toNat) k
 | a::ls,k0::ks,row,0,k,_,_,hr=>by
   obtain⟨_,h2⟩:=JJ hr;rw [List.set_cons_zero,CO,CO];have h3:∀b∈ls,4+b.toNat≠4+a.toNat:=fun b hb=>by have:=h2 b hb;omega
   rw [QG ls ks row _ k h3,QG ls ks row _ k0 h3];simp only [List.getElem_cons_zero,List.set_set]
 | a::ls,k0::ks,row,i+1,k,h1,hl,hr=>by
   obtain⟨h3,_⟩:=JJ hr;rw [List.set_cons_succ,CO,CO,QH ls ks _ i k (by simpa using h1) (by simpa using hl) h3];rfl
def JM(x:Nd)(i:Nat)(k:UInt64):Nd:={x with kids:=x.kids.set i k}
theorem kS{x:Nd}(h:Cc x=true)(i:Nat){k:UInt64}(hk:k≠0):Cc (JM x i k)=true:=by
 obtain⟨h1,h2,h3,h4,h5,h6⟩:=(Bg x).1 h;rw [Bg];have aux:∀j(hj:j<(x.kids.set i k).length),(x.kids.set i k)[j].toNat≠0:=fun j hj=>by
  rw [JO];split
  ·exact Abw hk
  ·exact h6 j (by rwa [CX]at hj)
 exact⟨h1,h2,by show _=(x.kids.set i k).length;rw [CX];exact h3,h4,h5,aux⟩
theorem VP(x:Nd)(i:Nat)(k:UInt64):Dl (JM x i k)=Dl x:=by
 unfold Dl JM;rw [CX]
theorem xX{x:Nd}(h:Cc x=true){i:Nat}(hi:i<x.kids.length)(k:UInt64):DI (JM x i k)=(DI x).set (Om x i) k:=by
 obtain⟨h1,h2,h3,h4,h5,h6⟩:=(Bg x).1 h;unfold DI Om;rw [show(JM x i k).kids=x.kids.set i k from rfl,CX];by_cases h4':x.kids.length<=4
 ·rw [if_pos h4',if_pos h4',if_pos h4'];unfold encS;rw [show(JM x i k).kids=x.kids.set i k from rfl,show(JM x i k).pre=x.pre from rfl,show(JM x i k).val=x.val from rfl,show(JM x i k).labels=x.labels from rfl,CX];rw [List.set_append_left _ _ (by simp;omega),List.set_append_right _ _ (by simp)];simp
 ·rw [if_neg h4',if_neg h4',if_neg h4'];unfold Qr;rw [show headB (JM x i k)=headB x by unfold headB;rw [show(JM x i k).kids=x.kids.set i k from rfl,CX];rfl,show(JM x i k).labels=x.labels from rfl,show(JM x i k).kids=x.kids.set i k from rfl];rw [QH x.labels x.kids (headB x) i k (by omega) h3 h5,VO (by omega)]
theorem xY{x:Nd}(h:Cc x=true){lab:UInt8}{kid:UInt64}{number:Nat}(hk:Oe x lab=some (kid,number)):∃(i:Nat)(h1:i<x.kids.length)(h2:i<x.labels.length),x.labels[i]=lab/\kid=x.kids[i]/\number=Om x i:=by
 have hl:=((Bg x).1 h).2.2.1;unfold Oe at hk;split at hk
 ·rename_i i hf;rw [if_pos h]at hk;simp only [Option.some.injEq,Prod.mk.injEq]at hk;unfold JR at hf;obtain⟨hi,hp,_⟩:=List.findIdx?_eq_some_iff_getElem.1 hf;have he:x.labels[i]=lab:=UInt8.toNat_inj.1 (by simpa using hp);refine⟨i,by omega,hi,he,?_,?_⟩
  ·rw [<-hk.1,Bh,Ag (by omega)];rfl
  ·rw [<-hk.2];unfold Om;rw [VO hi,he]
 ·cases hk
theorem aG{x:Nd}(h:Cc x=true){lab:UInt8}(hk:Oe x lab=none):Oz x.labels lab=false:=by
 unfold Oe at hk;split at hk
 ·rw [if_pos h]at hk;cases hk
 ·rename_i hf;unfold JR at hf;rw [List.findIdx?_eq_none_iff]at hf;unfold Oz;rw [List.any_eq_false];intro y hy;have:=hf y hy;simpa using this
theorem QI(pre:List UInt8)(ls:List UInt8)(ps:List Part)(i:Nat)(h1:i<ls.length)(h2:i<ps.length)(h:ls.length=ps.length):
 Bj pre ls ps=Bj pre (ls.take i) (ps.take i)++(Fa pre ls[i] ps[i].items++Bj pre (ls.drop (i+1)) (ps.drop (i+1))):=by
 rw [QF pre ls ps i h,Fz h1,Fz h2];rfl
theorem Ku(ps:List Part)(i:Nat)(h2:i<ps.length):Bc ps=Bc (ps.take i)++(ps[i].blocks++Bc (ps.drop (i+1))):=by
 rw [PZ ps i,Fz h2];rfl
def RF(q:List UInt8)(l:List Kv):List Kv:=l.map fun kv=>(q++kv.1,kv.2)
theorem kT(l:List Kv):RF [] l=l:=by simp [RF]
theorem VQ(pre:List UInt8)(lb:UInt8)(q:List UInt8)(A l B:List Kv):Fa pre lb (A++RF q l++B)=Fa pre lb A++RF (pre++lb::q) l++Fa pre lb B:=by
 unfold Fa RF;simp [List.map_map,Function.comp_def,AV]
structure VR(L:Nat)(s:St)(r:Nat)(name:UInt64)(items:List Kv)(blocks:List Nat)(word:Int)(rest:List UInt8)(last:Pl)(rest' q:List UInt8)(rl:Nat)(nl:UInt64)(parts:List Part)(A B:List Kv)(b1 b2:List Nat):Prop where
 rd:ER s nl=some last.nd
 off:Be nl=last.off
 pre:last.nd.pre.length<=rl
 kid:last.nd.kids≠[]->last.nd.pre.length+1<=rl
 len:parts.length=last.nd.kids.length
 sub:∀i(h1:i<last.nd.kids.length)(h2:i<parts.length),DJ s (rl-last.nd.pre.length-1) last.nd.kids[i] parts[i].items parts[i].blocks
 cut:rest=q++rest'
 lens:q.length+rl=r
 its:items=A++RF q (BZ last.nd++Bj last.nd.pre last.nd.labels parts)++B
 uK:blocks=b1++(last.off.toNat::Bc parts)++b2
 lo:∀kv∈A,∀t,Op.bytesLess kv.1 (q++t)=true
 hi:∀kv∈B,∀t,Op.bytesLess (q++t) kv.1=true
 wd:(q=[]/\last.word=word/\nl=name)\/(q≠[]/\∃p c j,p∈b1/\Ba s p c/\Gy p c j/\last.word=((8*j:Nat):Int)/\s.ws j=nl)
 swap:∀(s':St)(name':UInt64)(Vf:List Kv)(Tq:List Nat),BG L s'->name'≠0->DJ s' rl name' Vf Tq->(∀o c,(o∈b1\/o∈b2)->Ba s o c->Ba s' o c/\∀j,Gy o c j->s'.ws j=if((8*j:Nat):Int)=last.word then name' else s.ws j)->
  DJ s' r (if q=[]then name' else name) (A++RF q Vf++B) (b1++Tq++b2)
structure Anx(L:Nat)(s:St)(r:Nat)(name:UInt64)(items:List Kv)(blocks:List Nat)(word:Int)(rest:List UInt8)(last:Pl)(rest' q:List UInt8)(rl:Nat)(nl:UInt64)(parts:List Part)(A B:List Kv)(b1 b2:List Nat):Prop extends VR L s r name items blocks word rest last rest' q rl nl parts A B b1 b2 where
 stop:common last.nd.pre rest'<last.nd.pre.length\/common last.nd.pre rest'=rest'.length\/Oe last.nd (rest'.getD (common last.nd.pre rest') 0)=none
section
variable{L:Nat}{s:St}
theorem QJ(ok:BG L s){o p c d j k:Nat}(h:Ba s o c)(k1:Ba s p d)(hne:o≠p)(hj:Gy o c j)(hk:Gy p d k):j≠k:=fun e=>by
 subst e;exact Ob (kM ok h k1 hne) (h.bounds ok).2.2 (k1.bounds ok).2.2 hj hk
theorem aH(ok:BG L s){r:Nat}{name:UInt64}{nd:Nd}{parts:List Part}{o:Nat}{rest Af9:List UInt8}{word:Int}{i:Nat}(ho:Be name=o)(htk:Ba s o (Dl nd))(hr:Cc nd=true)(hw:wordsAt s.ws (o/8) (8*AZ (Dl nd))=DI nd)
 (hpre:nd.pre.length<=r)(hlen:parts.length=nd.kids.length)
 (hk:∀i(h1:i<nd.kids.length)(h2:i<parts.length),DJ s (r-nd.pre.length-1) nd.kids[i] parts[i].items parts[i].blocks)(hnd:((Be name).toNat::Bc parts).Nodup)(hi1:i<nd.kids.length)(hi2:i<nd.labels.length)(hi3:i<parts.length)(hkr:nd.pre.length+1<=r)(hcut:nd.pre++nd.labels[i]::Af9=rest)
 {last:Pl}{rest' q0:List UInt8}{rl:Nat}{nl:UInt64}{Vg:List Part}{A0 B0:List Kv}{b10 b20:List Nat}
 (S:VR L s (r-nd.pre.length-1) nd.kids[i] parts[i].items parts[i].blocks (Be name+8*(Om nd i:Nat)) Af9 last rest' q0 rl nl Vg A0 B0 b10 b20):
 VR L s r name (BZ nd++Bj nd.pre nd.labels parts) ((Be name).toNat::Bc parts) word rest last rest' (nd.pre++nd.labels[i]::q0) rl nl Vg (BZ nd++Bj nd.pre (nd.labels.take i) (parts.take i)++Fa nd.pre nd.labels[i] A0) (Fa nd.pre nd.labels[i] B0++Bj nd.pre (nd.labels.drop (i+1)) (parts.drop (i+1))) (o::Bc (parts.take i)++b10) (b20++Bc (parts.drop (i+1))):=by
 have hr':=(Bg nd).1 hr;obtain⟨hnd1,qR⟩:=GU.1 hnd;have hkb:=Ku parts i hi3;have Aga:=qR;rw [hkb]at Aga;obtain⟨n1,n2,n3⟩:=CW.1 Aga;obtain⟨n4,n5,n6⟩:=CW.1 n2;rw [ho]at hnd1;rw [BQ]at hnd1;obtain⟨pf1,pf2,_⟩:=qO nd hr i hi1;have hpos:(DI nd)[Om nd i]? =some nd.kids[i]:=uI nd hr i hi1;have iR:=htk.bounds ok;have hlw:=JK nd;have hpw:Gy o (Dl nd) (o/8+Om nd i):=⟨by omega,by omega⟩;have hwp:s.ws (o/8+Om nd i)=nd.kids[i]:=by
  rw [<-hw]at hpos;unfold wordsAt at hpos;rw [BO,Si (by omega)]at hpos;simpa using hpos
 have hword:∃p c j,(p=o\/p∈b10)/\Ba s p c/\Gy p c j/\last.word=((8*j:Nat):Int)/\s.ws j=nl:=by
  rcases S.wd with⟨e1,e2,e3⟩| ⟨_,p,c,j,h1,h2,h3,h4,h5⟩
  ·refine⟨o,_,_,.inl rfl,htk,hpw,?_,by rw [hwp,e3]⟩;rw [e2,ho];omega
  ·exact⟨p,c,j,.inr h1,h2,h3,h4,h5⟩
 have Qc:∀p∈b10,p∈parts[i].blocks:=fun p hp=>by rw [S.uK];simp [hp]
 have Agx:∀p∈b20,p∈parts[i].blocks:=fun p hp=>by rw [S.uK];simp [hp]
 have Alj:∀j(h:j<nd.labels.length),j<i->nd.labels[j].toNat<nd.labels[i].toNat:=fun j h hji=>Ic _ hr'.2.2.2.2.1 j i hji hi2
 have Ahx:∀j(h:j<nd.labels.length),i<j->nd.labels[i].toNat<nd.labels[j].toNat:=fun j h hji=>Ic _ hr'.2.2.2.2.1 i j hji h
 refine⟨S.rd,S.off,S.pre,S.kid,S.len,S.sub,?_,?_,?_,?_,?_,?_,?_,?_⟩
 ·rw [AV,Ci,<-S.cut];exact hcut.symm
 ·have:=S.lens;simp only [AQ,List.length_cons];omega
 ·rw [QI nd.pre nd.labels parts i hi2 hi3 (by omega),S.its,VQ];simp only [AV]
 ·rw [ho,BQ,hkb,S.uK];simp only [AV,Ci]
 ·intro kv hkv t;rw [AV,Ci];rcases AL.1 hkv with h| h
  ·rcases AL.1 h with h| h
   ·obtain⟨rfl,_⟩:=Fe h;exact aC _ _ _
   ·obtain⟨j,j1,j2,kv',_,rfl⟩:=EJ h;simp only [List.length_take]at j1;rw [List.getElem_take,MV];exact Ti (Alj j (by omega) (by omega)) _ _
  ·obtain⟨kv',h',rfl⟩:=BX.1 h;have:=S.lo kv' h' t;show Op.bytesLess (nd.pre++nd.labels[i]::kv'.1) _=true;rw [MV];simp [Op.bytesLess,this]
 ·intro kv hkv t;rw [AV,Ci];rcases AL.1 hkv with h| h
  ·obtain⟨kv',h',rfl⟩:=BX.1 h;have:=S.hi kv' h' t;show Op.bytesLess _ (nd.pre++nd.labels[i]::kv'.1)=true;rw [MV];simp [Op.bytesLess,this]
  ·obtain⟨j,j1,j2,kv',_,rfl⟩:=EJ h;simp only [AO]at j1;rw [VY,MV];exact Ti (Ahx _ (by omega) (by omega)) _ _
 ·right;refine⟨by simp,?_⟩;obtain⟨p,c,j,h1,h2⟩:=hword;refine⟨p,c,j,?_,h2⟩;rcases h1 with rfl| h1
  ·simp
  ·simp [h1]
 ·intro s' name' Vf Tq ok' hn' T' hkeep;obtain⟨pw,cw,jw,Anz,An0,An1,An2,Api⟩:=hword;have Aby:∀p c j,p≠pw->Ba s p c->Gy p c j->¬((8*j:Nat):Int)=last.word:=fun p c j hp ht hj e=>by
   have:=QJ ok ht An0 hp hj An1;rw [An2]at e;omega
  have T0:=S.swap s' name' Vf Tq ok' hn' T' (fun p c hp ht=>hkeep p c (by
   rcases hp with hp| hp
   ·left;simp [hp]
   ·right;simp [hp]) ht)
  obtain⟨QK,uM⟩:∃k,k=(if q0=[]then name' else nd.kids[i]):=⟨_,rfl⟩;rw [<-uM]at T0;have hk0':QK≠0:=by
   rw [uM];split
   ·exact hn'
   ·exact fun e=>hr'.2.2.2.2.2 i hi1 (by rw [e];rfl)
  obtain⟨t1,t2⟩:=hkeep o _ (by left;simp) htk;have hread:ER s' name=some (JM nd i QK):=by
   refine WR ok' ho (by rw [VP];exact t1) (kS hr i hk0') ?_;rw [VP,xX hr hi1 QK];refine Ew (by simp [wordsAt,hlw]) fun t g1 g2=> ?_
   have htl:t<8*AZ (Dl nd):=by simpa [wordsAt]using g1
   have hold:s.ws (o/8+t)=(DI nd)[t]'(by omega):=by
    have:(wordsAt s.ws (o/8) (8*AZ (Dl nd)))[t]? =(DI nd)[t]? :=by rw [hw]
    unfold wordsAt at this;rw [BO,Si htl,Ag (by omega)]at this;simpa using this
   have hib:Gy o (Dl nd) (o/8+t):=⟨by omega,by omega⟩;rw [JL,t2 _ hib,JO];rcases S.wd with⟨e1,e2,e3⟩| ⟨e1,p,c,j,p1,p2,p3,p4,p5⟩
   ·have hkn:QK=name':=by rw [uM,if_pos e1]
    by_cases e:t=Om nd i
    ·rw [if_pos (by rw [e2,ho];omega),if_pos e.symm,hkn]
    ·rw [if_neg (by rw [e2,ho];omega),if_neg (fun h=>e h.symm)];exact hold
   ·have hkn:QK=nd.kids[i]:=by rw [uM,if_neg e1]
    have hpo:p≠o:=fun e=>hnd1 (by rw [<-e,hkb];simp [Qc p p1])
    have:¬((8*(o/8+t):Nat):Int)=last.word:=fun e=>by
     have:=QJ ok htk p2 (fun e=>hpo e.symm) hib p3;rw [p4]at e;omega
    rw [if_neg this];by_cases e:Om nd i=t
    ·subst e;rw [if_pos rfl,hkn,hwp]
    ·rw [if_neg e];exact hold
  have T2:=DJ.mk (s:=s') r name (JM nd i QK) (parts.set i ⟨A0++RF q0 Vf++B0,b10++Tq++b20⟩) hread hpre (fun _=>hkr) (by show _=(nd.kids.set i QK).length;rw [CX,CX];exact hlen) (fun t g1 g2=>by
   have g1':t<nd.kids.length:=by have:t<(nd.kids.set i QK).length:=g1;rwa [CX]at this
   have g2':t<parts.length:=by rwa [CX]at g2
   by_cases e:i=t
   ·subst e;have e1:(JM nd i QK).kids[i]=QK:=by show(nd.kids.set i QK)[i]'(by rw [CX];exact hi1)=QK;rw [Qn]
    have e2:(parts.set i ⟨A0++RF q0 Vf++B0,b10++Tq++b20⟩)[i]=⟨A0++RF q0 Vf++B0,b10++Tq++b20⟩:=by rw [Qn]
    rw [e1,e2];exact T0
   ·have e1:(JM nd i QK).kids[t]=nd.kids[t]:=by show(nd.kids.set i QK)[t]'(by rw [CX];exact g1')=nd.kids[t];rw [sU e]
    have e2:(parts.set i ⟨A0++RF q0 Vf++B0,b10++Tq++b20⟩)[t]=parts[t]:=by rw [sU e]
    rw [e1,e2];refine(hk t g1' g2').keep ok ok' (B:=fun p=>p∈parts[t].blocks) (fun p c hp ht=> ?_) (fun _ h=>h);have Ahy:p∈Bc (parts.take i)\/p∈Bc (parts.drop (i+1)):=by
     unfold Bc;rcases Nat.lt_or_gt_of_ne e with h| h
     ·right;exact WY.2 ⟨_,BX.2 ⟨parts[t],List.mem_drop_iff_getElem.2 ⟨t- (i+1),by omega,by simp only [show i+1+(t- (i+1))=t by omega]⟩,rfl⟩,hp⟩
     ·left;exact WY.2 ⟨_,BX.2 ⟨parts[t],List.mem_take_iff_getElem.2 ⟨t,by omega,rfl⟩,rfl⟩,hp⟩
    obtain⟨u1,u2⟩:=hkeep p c (by
     rcases Ahy with h| h
     ·left;simp [h]
     ·right;simp [h]) ht
    refine⟨u1,fun j hj=> ?_⟩;rw [u2 j hj,if_neg];refine Aby p c j (fun e'=> ?_) ht hj;subst e';rcases Anz with h| h
    ·subst h;refine hnd1 ?_;rw [hkb];rcases Ahy with h| h<;>simp [h]
    ·have h':=Qc _ h;rcases Ahy with h2| h2
     ·exact n3 _ h2 _ (by simp [h']) rfl
     ·exact n6 _ h' _ h2 rfl)
  rw [if_neg (by simp)];have hl2:i<(parts.set i (⟨A0++RF q0 Vf++B0,b10++Tq++b20⟩:Part)).length:=by rw [CX];exact hi3
  rw [ho,BQ,show(JM nd i QK).pre=nd.pre from rfl,show(JM nd i QK).labels=nd.labels from rfl,show BZ (JM nd i QK)=BZ nd from rfl,
   QI nd.pre nd.labels _ i hi2 hl2 (by rw [CX];omega),Ku _ i hl2]at T2
  simp only [Qn,List.take_set_of_le (Ae i),List.drop_set_of_lt (Nat.lt_succ_self i)]at T2;rw [VQ]at T2;simpa only [AV,Ci]using T2
theorem Vh{r:Nat}{name:UInt64}{nd:Nd}{parts:List Part}{rest:List UInt8}{label:UInt8}{word:Int}(hrd:ER s name=some nd)(hpre:nd.pre.length<=r)(NI:nd.kids≠[]->nd.pre.length+1<=r)(hlen:parts.length=nd.kids.length)
 (hk:∀i(h1:i<nd.kids.length)(h2:i<parts.length),DJ s (r-nd.pre.length-1) nd.kids[i] parts[i].items parts[i].blocks):
 VR L s r name (BZ nd++Bj nd.pre nd.labels parts) ((Be name).toNat::Bc parts) word rest ⟨nd,Be name,label,word⟩ rest [] r name parts [] [] [] []:=
 ⟨hrd,rfl,hpre,NI,hlen,hk,rfl,by simp,by simp [kT],by simp,(fun _ h=>by cases h),(fun _ h=>by cases h),.inl ⟨rfl,rfl,rfl⟩,fun s' name' Vf Tq _ _ T _=>by simpa [kT]using T⟩
theorem Vj{nd:Nd}{rest:List UInt8}{kid:UInt64}{number:Nat}(hr:Cc nd=true)(h1:¬(common nd.pre rest<nd.pre.length\/common nd.pre rest=rest.length))(hkp:Oe nd (rest.getD (common nd.pre rest) 0)=some (kid,number)):
 common nd.pre rest=nd.pre.length/\nd.pre.length<rest.length/\∃(i:Nat)(hi1:i<nd.kids.length)(hi2:i<nd.labels.length),kid=nd.kids[i]/\number=Om nd i/\nd.labels[i]=rest.getD nd.pre.length 0/\nd.pre++nd.labels[i]::rest.drop (nd.pre.length+1)=rest:=by
 obtain⟨i,hi1,hi2,hlab,rfl,rfl⟩:=xY hr hkp;have hc:common nd.pre rest=nd.pre.length:=by have:=I8 nd.pre rest;omega
 have hlt:nd.pre.length<rest.length:=by have:=EP nd.pre rest;omega
 have hct:=Qq nd.pre rest;rw [hc]at hct hlab;rw [List.take_length]at hct;have hcut:=Ae1 hlt;rw [<-hct,<-hlab]at hcut;exact⟨hc,hlt,i,hi1,hi2,rfl,rfl,hlab,hcut⟩
theorem aI(ok:BG L s):∀(f r:Nat)(name:UInt64)(items:List Kv)(blocks:List Nat)(rest:List UInt8)(label:UInt8)(word:Int)(way:List Pl),DJ s r name items blocks->blocks.Nodup->rest.length<f->rest.length<=r->name≠0->
 ∃last rest' q rl nl parts A B b1 b2 Abz,Ee s f name rest label word way=some (way++Abz++[last],rest')/\Anx L s r name items blocks word rest last rest' q rl nl parts A B b1 b2
 | 0,_,_,_,_,_,_,_,_,_,_,h,_,_=>absurd h (by omega)
 | f+1,r,name,items,blocks,rest,label,word,way,ht,hnd,hf,hrl,hn0=>by
   cases ht with
   | mk _ _ nd parts hrd hpre NI hlen hk=>
     obtain⟨o,ho,htk,hr,hw⟩:=IZ ok hrd;rw [Ee,if_neg hn0,hrd]
     dsimp only
     by_cases h1:common nd.pre rest<nd.pre.length\/common nd.pre rest=rest.length
     ·rw [if_pos h1];exact⟨⟨nd,Be name,label,word⟩,_,_,_,_,_,_,_,_,_,[],by simp,⟨Vh hrd hpre NI hlen hk,h1.imp id .inl⟩⟩
     ·rw [if_neg h1];cases hkp:Oe nd (rest.getD (common nd.pre rest) 0)with
      | none=>exact⟨⟨nd,Be name,label,word⟩,_,_,_,_,_,_,_,_,_,[],by simp,⟨Vh hrd hpre NI hlen hk,.inr (.inr hkp)⟩⟩
      | some kn=>
        obtain⟨kid,number⟩:=kn;obtain⟨hc,hlt,i,hi1,hi2,rfl,rfl,hlab,hcut⟩:=Vj hr h1 hkp;have hi3:i<parts.length:=by omega
        have hkr:=NI (fun e=>by rw [e]at hi1;simp at hi1);have qR:=(GU.1 hnd).2;rw [Ku parts i hi3]at qR;have n4:=(CW.1 (CW.1 qR).2.1).1;obtain⟨last,rest',q0,rl,nl,Vg,A0,B0,b10,b20,Abz,hp,S⟩:=aI ok f (r-nd.pre.length-1) nd.kids[i] parts[i].items parts[i].blocks (rest.drop (nd.pre.length+1)) (rest.getD (common nd.pre rest) 0) (Be name+8*(Om nd i:Nat)) (way++[⟨nd,Be name,label,word⟩]) (hk i hi1 hi3) n4 (by rw [AO];omega) (by rw [AO];omega) (fun e=>((Bg nd).1 hr).2.2.2.2.2 i hi1 (by rw [e];rfl));simp only;rw [hc]at hp⊢;exact⟨last,rest',_,rl,nl,Vg,_,_,_,_,⟨nd,Be name,label,word⟩::Abz,by rw [hp];simp,⟨aH ok ho htk hr hw hpre hlen hk hnd hi1 hi2 hi3 hkr hcut S.toVR,S.stop⟩⟩
end
structure QL(X:Nat->Prop)(L:Nat)(s:St)(items:List Kv):Prop where
 ok:BG L s
 nh:∀o d,¬Fv s o d
 tree:(s.ws 9=0/\items=[]/\∀o,(∃d,Ba s o d)<->X o)\/(∃blocks,s.ws 9≠0/\DJ s 32 (s.ws 9) items blocks/\blocks.Nodup/\(∀o∈blocks,¬X o)/\∀o,(∃d,Ba s o d)<->o∈blocks\/X o)
 even:∀kv∈items,MZ kv.1=true
abbrev An3:=QL (fun _=>False)
structure QM(X:Nat->Prop)(s s':St):Prop where
 sh:s'.sh=s.sh
 low:∀j,j<16->j≠9->s'.ws j=s.ws j
 keep:FH s s' X
section
variable{X:Nat->Prop}{L:Nat}{s:St}
theorem OO{s s':St}(h1:s'.hd=s.hd)(h2:s'.sh=s.sh)(o d:Nat):Fv s' o d<->Fv s o d:=by
 unfold Fv hdN;rw [h1,h2]
theorem Us:∀(l:List Nat){s:St}(_:BG L s),l.Nodup->(∀o∈l,∃d,Ba s o d)->
 ∃s2,LX s (l.map CE)=s2/\BG L s2/\s2.sh=s.sh/\s2.hd=s.hd/\(∀j,(j<16\/16+s.sh.BM<=j)->s2.ws j=s.ws j)/\∀o d,Ba s2 o d<->Ba s o d/\o∉l
 | [],s,ok,_,_=>⟨s,rfl,ok,rfl,rfl,fun _ _=>rfl,fun o d=>by simp⟩
 | o::l,s,ok,hn,ht=>by
   obtain⟨hn1,hn2⟩:=GU.1 hn;obtain⟨d,hd⟩:=ht o (Bv ..);obtain⟨s1,e1,ok1,sh1,hd1,X5,tk1⟩:=fD ok hd;obtain⟨s2,e2,ok2,mZ,hd2,ws2,fG⟩:=Us l ok1 hn2 (fun p hp=>by
    obtain⟨d',hd'⟩:=ht p (Bz _ hp);exact⟨d',(tk1 p d').2 ⟨hd',fun e=>hn1 (e▸hp)⟩⟩)
   refine⟨s2,?_,ok2,mZ.trans sh1,hd2.trans hd1,fun j hj=>(ws2 j (by rw [sh1];exact hj)).trans (X5 j hj),fun p c=> ?_⟩
   ·rw [<-e2];unfold LX;rw [Cf,QR];show List.foldl _ (Fj s (CE o)).1 _=_;rw [show(CE o)=(o:Int)from rfl,e1]
   ·rw [fG,tk1,D9,not_or];exact⟨fun h=>⟨h.1.1,h.1.2,h.2⟩,fun h=>⟨⟨h.1,h.2.1⟩,h.2.2⟩⟩
theorem Y4:∀(l:List Nat){s:St}(_:BG L s),l.Nodup->(∀o∈l,∃d,Ba s o d)->Nc s (l.map CE) 0=(LX s (l.map CE),0)
 | [],s,_,_,_=>rfl
 | o::l,s,ok,hn,ht=>by
   obtain⟨hn1,hn2⟩:=GU.1 hn;obtain⟨d,hd⟩:=ht o (Bv ..);obtain⟨s1,e1,ok1,sh1,hd1,X5,tk1⟩:=fD ok hd;have ih:=Y4 l ok1 hn2 (fun p hp=>by
    obtain⟨d',hd'⟩:=ht p (Bz _ hp);exact⟨d',(tk1 p d').2 ⟨hd',fun e=>hn1 (e▸hp)⟩⟩)
   unfold LX at ih⊢;rw [Cf,QR,Nc,show(CE o)=(o:Int)from rfl,e1];simpa using ih
theorem uN{s0:St}{j:Jb}{B:List Nat}(_:BG L s0)(g:Grown L s0 j B):∃s2,LX j.s j.made=s2/\BG L s2/\(∀o d,¬Fv s2 o d)/\(∀o,(∃d,Ba s2 o d)<->∃d,Ba s0 o d)/\FH s0 s2 (fun _=>True)/\(∀i,i<16->s2.ws i=s0.ws i)/\s2.sh=s0.sh:=by
 obtain⟨s2,e2,ok2,mZ,hd2,ws2,fG⟩:=Us B g.ok g.qo (fun o ho=>(g.tk o).2 (.inr ho));refine⟨s2,by rw [g.made];exact e2,ok2,fun o d h=>g.nh o d ((OO hd2 mZ o d).1 h),fun o=> ?_,fun o c _ ht=> ?_,fun i hi=>(ws2 i (.inl hi)).trans (g.low i hi),mZ.trans g.sh⟩
 ·constructor
  ·rintro⟨d,h⟩;obtain⟨h1,h2⟩:=(fG o d).1 h;exact((g.tk o).1 ⟨d,h1⟩).resolve_right h2
  ·rintro⟨d,h⟩;obtain⟨h1,_⟩:=g.keep o d trivial h;exact⟨d,(fG o d).2 ⟨h1,fun hB=>g.new o hB d h⟩⟩
 ·obtain⟨h1,h2⟩:=g.keep o c trivial ht;refine⟨(fG o c).2 ⟨h1,fun hB=>g.new o hB c ht⟩,fun j hj=> ?_⟩;rw [ws2 j (.inr ?_),h2 j hj];have:=g.ok.DC (h1.bounds g.ok).1 hj;exact this
theorem QL.same{s':St}{items:List Kv}(h:QL X L s items)(ok':BG L s')(nh':∀o d,¬Fv s' o d)(htk:∀o,(∃d,Ba s' o d)<->∃d,Ba s o d)(hk:FH s s' (fun _=>True))(h9:s'.ws 9=s.ws 9):QL X L s' items:=by
 refine⟨ok',nh',?_,h.even⟩;rcases h.tree with⟨h1,h2,h3⟩| ⟨bl,h1,h2,h3,hX,h4⟩
 ·exact .inl ⟨by rw [h9,h1],h2,fun o=>(htk o).trans (h3 o)⟩
 ·exact .inr ⟨bl,by rw [h9];exact h1,by rw [h9];exact h2.keep h.ok ok' hk (fun _ _=>trivial),h3,hX,fun o=>(htk o).trans (h4 o)⟩
theorem kU{a b:List UInt8}(h:Op.bytesLess a b=true):a≠b:=fun e=>by rw [e,Gw]at h;cases h
theorem Eb{q:List UInt8}{l:List Kv}{kv:Kv}:kv∈RF q l<->∃k,(k,kv.2)∈l/\kv.1=q++k:=by
 unfold RF;rw [BX];constructor
 ·rintro⟨kv',h,rfl⟩;exact⟨kv'.1,h,rfl⟩
 ·rintro⟨k,h,e⟩;exact⟨(k,kv.2),h,by cases kv;simp only at e;subst e;rfl⟩
def kV(items items':List Kv)(k:List UInt8)(v:UInt64):Prop:=∀kv,kv∈items'<->kv=(k,v)\/(kv∈items/\kv.1≠k)
def uO(X:Nat->Prop)(L:Nat)(s:St)(items:List Kv)(k:List UInt8)(v:UInt64)(r:St×Int):Prop:=
 QM X s r.1/\((r.2=6/\QL X L r.1 items/\∀kv∈items,kv.1≠k)\/(r.2=0/\∃items',QL X L r.1 items'/\kV items items' k v))
theorem Vk(k:List UInt8):MZ (Di k)=true:=nI k
theorem xZ{items:List Kv}(h:QL X L s items)(h0:s.ws 9=0)(key:List UInt8)(hk:key.length<=16)(value:UInt64)(hv:value≠0):uO X L s items (Di key) value (GX s key value):=by
 have hi:items=[]/\∀o,(∃d,Ba s o d)<->X o:=by
  rcases h.tree with⟨_,h2,h3⟩| ⟨_,h1,_⟩
  ·exact⟨h2,h3⟩
  ·exact absurd h0 h1
 have hlen:=L8 key;have hp:Gi s key=some ([],Di key):=by
  unfold Gi;rw [h0,Ee,if_pos rfl]
 have hL:=WS ((Di key).length+1) (Grown.start h.ok h.nh) 32 (Di key) value (by omega) (by omega) (Xc key) hv;unfold GX;rw [if_neg (by omega),if_neg hv,hp];simp only [Dj,List.getLast?_nil];generalize Je ((Di key).length+1) ⟨s,[]⟩ (Di key) value=res at hL;obtain⟨j,name,e⟩:=res;rcases hL with⟨e1,B',g⟩| ⟨e1,C,bl,g,hkp,hn,T,hp⟩
 ·simp only at e1 g;subst e1;simp only [DK];rw [if_pos (by decide)];obtain⟨s2,e2,ok2,nh2,fG,kp2,lo2,mZ⟩:=uN h.ok g;rw [e2];refine⟨⟨mZ,fun j hj _=>lo2 j hj,fun o c _ ht=>kp2 o c trivial ht⟩,?_⟩;exact .inl ⟨rfl,h.same ok2 nh2 fG kp2 (lo2 9 (by decide)),fun kv hkv=>by rw [hi.1]at hkv;cases hkv⟩
 ·simp only at e1 g hkp hn T;subst e1;rw [Et]at g;simp only [DK,Nc];rw [if_neg (by simp)];obtain⟨s',hs'⟩:∃s',s'=({j.s with ws:=FO j.s.ws ((72:Int).toNat/8) name}:St):=⟨_,rfl⟩;rw [<-hs'];have hw:∀i,s'.ws i=if i=9 then name else j.s.ws i:=fun i=>by rw [hs'];rfl
  have ok':BG L s':=hs'▸g.ok.words (fun i hi=>by
   show FO j.s.ws 9 name (16+i)=_;unfold FO;rw [if_neg (by omega)])
  have htk:∀o d,Ba s' o d<->Ba j.s o d:=fun o d=>by rw [hs'];exact Iff.rfl
  have hk':FH j.s s' (fun _=>True):=fun o c _ ht=>⟨(htk o c).2 ht,fun i hi=>by
   rw [hw,if_neg];have:=g.ok.DC (ht.bounds g.ok).1 hi;omega⟩
  have hCX:∀o∈bl,¬X o:=fun o ho hx=>by
   obtain⟨d,hd⟩:=(hi.2 o).2 hx;exact g.new o (hp.mem_iff.1 ho) d hd
  refine⟨⟨by rw [hs'];exact g.sh,fun j hj hj9=>by rw [hw,if_neg hj9,g.low j hj],fun o c _ ht=> ?_⟩,?_⟩
  ·obtain⟨u1,u2⟩:=g.keep o c trivial ht;obtain⟨u3,u4⟩:=hk' o c trivial u1;exact⟨u3,fun j hj=>(u4 j hj).trans (u2 j hj)⟩
  right;refine⟨rfl,[(Di key,value)],?_,fun kv=>by rw [hi.1];simp⟩;refine⟨ok',fun o d hh=>g.nh o d (by rw [hs']at hh;exact hh),.inr ⟨bl,by rw [hw,if_pos rfl];exact hn,by rw [hw,if_pos rfl];exact T.keep g.ok ok' hk' (fun _ _=>trivial),hp.nodup_iff.2 g.qo,hCX,fun o=> ?_⟩,fun kv hkv=>by rw [BD]at hkv;subst hkv;exact Vk key⟩;rw [show(∃d,Ba s' o d)<->∃d,Ba j.s o d from exists_congr (htk o),g.tk o,hp.mem_iff,hi.2 o];exact or_comm
end
theorem yc(x:Nd)(v:UInt64):DI {x with val:=v}=(DI x).set 2 v:=by
 have hl:(DI {x with val:=v}).length=(DI x).length:=by rw [Ez,Ez]
 refine List.ext_getElem? fun i=> ?_
 rw [List.getElem?_set];by_cases h:2=i
 ·subst h;rw [zU,if_pos rfl,if_pos];rw [Ez];split<;>omega
 ·rw [if_neg h,zT x v i (fun e=>h e.symm)]
section
variable{X:Nat->Prop}{L:Nat}{s:St}
structure Oc(L:Nat)(s:St)(items:List Kv)(blocks:List Nat)(key:List UInt8)(last:Pl)(rest' q:List UInt8)(rl:Nat)(nl:UInt64)(parts:List Part)(A B:List Kv)(b1 b2:List Nat)(o:Nat):Prop where
 spot:VR L s 32 (s.ws 9) items blocks 72 (Di key) last rest' q rl nl parts A B b1 b2
 off:last.off=o
 tk:Ba s o (Dl last.nd)
 right:Cc last.nd=true
 words:wordsAt s.ws (o/8) (8*AZ (Dl last.nd))=DI last.nd
 n1:o∉b1
 n2:o∉b2
 n3:o∉Bc parts
 d1:∀p∈b1,p∉Bc parts
 d2:∀p∈b2,p∉Bc parts
 d3:∀p∈b1,p∉b2
 m1:b1.Nodup
 m2:b2.Nodup
 m3:(Bc parts).Nodup
 uK:blocks=b1++(o::Bc parts)++b2
structure Vl(L:Nat)(s:St)(items:List Kv)(blocks:List Nat)(key:List UInt8)(last:Pl)(rest' q:List UInt8)(rl:Nat)(nl:UInt64)(parts:List Part)(A B:List Kv)(b1 b2:List Nat)(o:Nat):Prop extends Oc L s items blocks key last rest' q rl nl parts A B b1 b2 o where
 stop:common last.nd.pre rest'<last.nd.pre.length\/common last.nd.pre rest'=rest'.length\/Oe last.nd (rest'.getD (common last.nd.pre rest') 0)=none
theorem uP(h:BG L s){items:List Kv}{blocks:List Nat}{key rest' q:List UInt8}{last:Pl}{rl:Nat}{nl:UInt64}{parts:List Part}{A B:List Kv}{b1 b2:List Nat}(hnd:blocks.Nodup)(S:VR L s 32 (s.ws 9) items blocks 72 (Di key) last rest' q rl nl parts A B b1 b2):
 ∃o,Oc L s items blocks key last rest' q rl nl parts A B b1 b2 o:=by
 obtain⟨o,ho,ht,hr,hw⟩:=IZ h S.rd;have hoff:last.off=o:=S.off.symm.trans ho;have hb:=S.uK;rw [hoff,BQ]at hb;have hnd':=hnd;rw [hb]at hnd';obtain⟨x1,x2,x3⟩:=CW.1 hnd';obtain⟨y1,y2,y3⟩:=CW.1 x1;obtain⟨z1,z2⟩:=GU.1 y2;exact⟨o,⟨S,hoff,ht,hr,hw,fun h=>y3 _ h _ (Bv ..) rfl,fun h=>x3 _ (by simp) _ h rfl,z1,fun p hp hk=>y3 _ hp _ (Bz _ hk) rfl,fun p hp hk=>x3 _ (by simp [hk]) _ hp rfl,fun p hp hk=>x3 _ (by simp [hp]) _ hk rfl,y1,x2,z2,hb⟩⟩
theorem around(h:BG L s){items:List Kv}{blocks:List Nat}(hn0:s.ws 9≠0)(T:DJ s 32 (s.ws 9) items blocks)(hnd:blocks.Nodup)(key:List UInt8)(hk:key.length<=16):
 ∃way last rest' q rl nl parts A B b1 b2 o,Gi s key=some (way++[last],rest')/\Vl L s items blocks key last rest' q rl nl parts A B b1 b2 o:=by
 have hlen:=L8 key;obtain⟨last,rest',q,rl,nl,parts,A,B,b1,b2,Abz,hp,S⟩:=aI h (2*key.length+1) 32 (s.ws 9) items blocks (Di key) 0 72 [] T hnd (by omega) (by omega) hn0;obtain⟨o,a⟩:=uP h hnd S.toVR;exact⟨Abz,last,rest',q,rl,nl,parts,A,B,b1,b2,o,by unfold Gi;rw [hp];simp,⟨a,S.stop⟩⟩
variable{items:List Kv}{blocks:List Nat}{key:List UInt8}{last:Pl}{rest' q:List UInt8}{rl:Nat}{nl:UInt64}{parts:List Part}{A B:List Kv}{b1 b2:List Nat}{o:Nat}
theorem Oc.word(ok:BG L s)(a:Oc L s items blocks key last rest' q rl nl parts A B b1 b2 o):∃jw:Nat,last.word=((8*jw:Nat):Int)/\s.ws jw=nl/\(jw<16\/16+s.sh.BM<=jw)/\((q=[]/\jw=9)\/(q≠[]/\∃p c,p∈b1/\Ba s p c/\Gy p c jw)):=by
 rcases a.spot.wd with⟨h1,h2,h3⟩| ⟨h1,p,c,j,h2,h3,h4,h5,h6⟩
 ·exact⟨9,by rw [h2];rfl,h3.symm,.inl (by decide),.inl ⟨h1,rfl⟩⟩
 ·exact⟨j,h5,h6,.inr (ok.DC (h3.bounds ok).1 h4),.inr ⟨h1,p,c,h2,h3,h4⟩⟩
theorem Oc.other(a:Oc L s items blocks key last rest' q rl nl parts A B b1 b2 o)(kv:Kv)(h:kv∈A\/kv∈B):kv.1≠Di key:=by
 rw [a.spot.cut];rcases h with h| h
 ·exact kU (a.spot.lo kv h rest')
 ·exact fun e=>kU (a.spot.hi kv h rest') e.symm
theorem kW{items:List Kv}{blocks:List Nat}(h:QL X L s items)(hn0:s.ws 9≠0)(htk:∀o,(∃d,Ba s o d)<->o∈blocks\/X o)(hX:∀o∈blocks,¬X o)(hnd:blocks.Nodup)(a:Oc L s items blocks key last rest' q rl nl parts A B b1 b2 o)(hp:last.nd.pre=rest')(value:UInt64):
 QM X s (JU s last value)/\QL X L (JU s last value) (A++RF q (BZ {last.nd with val:=value}++Bj last.nd.pre last.nd.labels parts)++B):=by
 have ok:=h.ok;obtain⟨jw,hj1,hj2,hj3,hj4⟩:=a.word ok;have iR:=a.tk.bounds ok;have S:=a.spot;obtain⟨s',hs'⟩:∃s',s'=JU s last value:=⟨_,rfl⟩;have hw:∀i,s'.ws i=if i=o/8+2 then value else s.ws i:=fun i=>by
  rw [hs'];show FO s.ws (last.off.toNat/8+2) value i=_;rw [a.off,BQ];rfl
 have hin:Gy o (Dl last.nd) (o/8+2):=⟨by omega,by
  have:=(EI (OL last.nd)).2.1;omega⟩
 have hout:=ok.DC iR.1 hin;have ok':BG L s':=by
  rw [hs'];exact ok.words (fun i hi=>by
   show FO s.ws (last.off.toNat/8+2) value (16+i)=_;rw [a.off,BQ];unfold FO;rw [if_neg (by omega)])
 have Ahz:∀p d,Ba s' p d<->Ba s p d:=fun p d=>by rw [hs'];exact Iff.rfl
 have hkeep:FH s s' (fun p=>p≠o):=fun p c hp ht=>⟨(Ahz p c).2 ht,fun j hj=>by
  rw [hw,if_neg (QJ ok ht a.tk hp hj hin)]⟩
 have hrd:ER s' nl=some {last.nd with val:=value}:=by
  refine WR ok' (S.off.trans a.off) ((Ahz _ _).2 a.tk) (by rw [nP];exact a.right) ?_;rw [show Dl {last.nd with val:=value}=Dl last.nd from rfl,yc];refine Ew (by simp [wordsAt,JK]) fun t g1 g2=> ?_
  have htl:t<8*AZ (Dl last.nd):=by simpa [wordsAt]using g1
  have hold:s.ws (o/8+t)=(DI last.nd)[t]'(by rw [JK];exact htl):=by
   have:(wordsAt s.ws (o/8) (8*AZ (Dl last.nd)))[t]? =(DI last.nd)[t]? :=by rw [a.words]
   unfold wordsAt at this;rw [BO,Si htl,Ag (by rw [JK];exact htl)]at this;simpa using this
  rw [JL,hw,JO];by_cases e:t=2
  ·rw [if_pos (by omega),if_pos e.symm]
  ·rw [if_neg (by omega),if_neg (fun h=>e h.symm)];exact hold
 have T:=DJ.mk (s:=s') rl nl {last.nd with val:=value} parts hrd S.pre S.kid S.len (fun i h1 h2=>(S.sub i h1 h2).keep ok ok' hkeep (fun p hp e=>a.n3 (e▸RY h2 hp)));rw [S.off,a.off,BQ]at T;have T2:=S.swap s' nl _ _ ok' (fun e=>by
  rcases hj4 with⟨h1,h2⟩| ⟨h1,h2⟩
  ·rw [h2]at hj2;exact hn0 (hj2.trans e)
  ·have:=S.rd;rw [e]at this;obtain⟨o',ho',ht',_⟩:=IZ ok this;have:=(ht'.bounds ok).1;have hz:Be 0=0:=by decide
   rw [hz]at ho';have:=ok.sh.NR;omega) T (fun p c hp ht=>by
  have hpo:p≠o:=fun e=>by subst e;exact hp.elim a.n1 a.n2
  obtain⟨u1,u2⟩:=hkeep p c hpo ht;refine⟨u1,fun j hj=> ?_⟩;rw [u2 j hj];split
  ·rename_i e;rw [hj1]at e;rw [<-hj2];congr 1;omega
  ·rfl)
 have h9:s'.ws 9=s.ws 9:=by rw [hw,if_neg (by omega)]
 have hname:(if q=[]then nl else s.ws 9)=s.ws 9:=by
  split
  ·rename_i e;rcases hj4 with⟨_,h2⟩| ⟨h1,_⟩
   ·rw [<-hj2,h2]
   ·exact absurd e h1
  ·rfl
 rw [hname]at T2;have hkey:Di key=q++last.nd.pre:=by rw [hp];exact S.cut
 refine⟨⟨by rfl,fun j hj _=>by rw [<-hs',hw,if_neg (by omega)],fun p c hp ht=>by rw [<-hs'];exact hkeep p c (fun e=>hX o (by rw [a.uK];simp) (e▸hp)) ht⟩,?_⟩;refine⟨by rw [<-hs'];exact ok',fun p d hh=>h.nh p d ((OO (by rfl) (by rfl) p d).1 hh),.inr ⟨blocks,by rw [<-hs',h9];exact hn0,?_,hnd,hX,fun p=> ?_⟩,?_⟩
 ·rw [<-hs',h9,a.uK];exact T2
 ·rw [<-hs',show(∃d,Ba s' p d)<->∃d,Ba s p d from exists_congr (Ahz p)];exact htk p
 ·intro kv hkv;rw [AV]at hkv;rcases AL.1 hkv with h1| h1
  ·exact h.even kv (by rw [S.its];simp [h1])
  ·rcases AL.1 h1 with h1| h1
   ·obtain⟨k,h2,h3⟩:=Eb.1 h1;rcases AL.1 h2 with h4| h4
    ·obtain⟨e,_⟩:=Fe h4;rw [h3];have e1:k=last.nd.pre:=congrArg Prod.fst e;rw [e1,<-hkey];exact Vk key
    ·refine h.even kv ?_;rw [S.its,AV];exact Bo _ (BB _ (Eb.2 ⟨k,Bo _ h4,h3⟩))
   ·exact h.even kv (by rw [S.its];simp [h1])
theorem yf{items:List Kv}{blocks:List Nat}(h:QL X L s items)(hn0:s.ws 9≠0)(htk:∀o,(∃d,Ba s o d)<->o∈blocks\/X o)(hX:∀o∈blocks,¬X o)(hnd:blocks.Nodup)(a:Vl L s items blocks key last rest' q rl nl parts A B b1 b2 o)(hp:last.nd.pre=rest')(value:UInt64)(hv:value≠0):
 uO X L s items (Di key) value (JU s last value,0):=by
 have S:=a.spot;have hkey:Di key=q++last.nd.pre:=by rw [hp];exact S.cut
 obtain⟨hK,hV⟩:=kW h hn0 htk hX hnd a.toOc hp value;refine⟨hK,?_⟩;right;refine⟨rfl,_,hV,?_⟩;intro kv;have NI:∀k,(k,kv.2)∈Bj last.nd.pre last.nd.labels parts->q++k≠Di key:=fun k hk e=>by
  obtain⟨i,h1,h2,kv',_,e2⟩:=EJ hk;rw [hkey]at e;have:=Ec e;have e3:k=last.nd.pre++last.nd.labels[i]::kv'.1:=congrArg Prod.fst e2;rw [e3]at this;have:=congrArg List.length this;simp at this
 constructor
 ·intro hkv;rw [AV]at hkv;rcases AL.1 hkv with h1| h1
  ·exact .inr ⟨by rw [S.its];simp [h1],a.other kv (.inl h1)⟩
  ·rcases AL.1 h1 with h1| h1
   ·obtain⟨k,h2,h3⟩:=Eb.1 h1;rcases AL.1 h2 with h4| h4
    ·obtain⟨e,_⟩:=Fe h4;left;have e1:k=last.nd.pre:=congrArg Prod.fst e;have e2:kv.2=value:=congrArg Prod.snd e;refine Prod.ext ?_ e2;rw [h3,e1,hkey]
    ·refine .inr ⟨?_,by rw [h3];exact NI k h4⟩;rw [S.its,AV];exact Bo _ (BB _ (Eb.2 ⟨k,Bo _ h4,h3⟩))
   ·exact .inr ⟨by rw [S.its];simp [h1],a.other kv (.inr h1)⟩
 ·rintro(rfl| ⟨h1,h2⟩)
  ·rw [AV];refine Bo _ (BB _ (Eb.2 ⟨last.nd.pre,BB _ ?_,hkey⟩));unfold BZ;rw [if_pos hv];exact BD.2 rfl
  ·rw [S.its,AV]at h1;rw [AV];rcases AL.1 h1 with h3| h3
   ·exact BB _ h3
   ·rcases AL.1 h3 with h3| h3
    ·obtain⟨k,h4,h5⟩:=Eb.1 h3;rcases AL.1 h4 with h6| h6
     ·obtain⟨e,_⟩:=Fe h6;have e1:k=last.nd.pre:=congrArg Prod.fst e;exact absurd (by rw [h5,e1,hkey]) h2
     ·exact Bo _ (BB _ (Eb.2 ⟨k,Bo _ h6,h5⟩))
    ·exact Bo _ (Bo _ h3)
end
section
variable{X:Nat->Prop}{L:Nat}{s:St}{items:List Kv}{blocks:List Nat}{key:List UInt8}{last:Pl}{rest' q:List UInt8}{rl:Nat}{nl:UInt64}{parts:List Part}{A B:List Kv}{b1 b2:List Nat}{o:Nat}
theorem aK (h : QL X L s items) (hn0 : s.ws 9 ≠ 0) (htk : ∀ o, (∃ d, Ba s o d) <-> o ∈ blocks \/ X o) (hX : ∀ o ∈ blocks, ¬ X o) (a : Oc L s items blocks key last rest' q rl nl parts A B b1 b2 o) {j : Jb} {C : List Nat} (g : Grown L s j C) {name : UInt64} (hn : name ≠ 0) {Vf : List Kv} {Tq : List Nat}
    (T : DJ j.s rl name Vf Tq) {K D dl : List Nat} (hperm : (Bc parts).Perm (K ++ D)) (hpm : Tq.Perm (C ++ K)) (hdl : dl.Perm (D ++ [o])) (hev : ∀ kv ∈ Vf, MZ (q ++ kv.1) = true) :
    ∃ s2, DK j 0 last.word name (dl.map CE) = (s2, 0) /\ QM X s s2 /\ QL X L s2 (A ++ RF q Vf ++ B) := by
  have ok := h.ok
  obtain ⟨jw, hj1, hj2, hj3, hj4⟩ := a.word ok
  have S := a.spot
  obtain ⟨s1, hs1⟩ : ∃ s1, s1 = ({ j.s with ws := FO j.s.ws (last.word.toNat / 8) name } : St) := ⟨_, rfl⟩
  have mY : last.word.toNat / 8 = jw := by rw [hj1, BQ]; omega
  have hw1 : ∀ i, s1.ws i = if i = jw then name else j.s.ws i := fun i => by rw [hs1, <- mY]; rfl
  have Ah0 := g.sh
  have ok1 : BG L s1 := by
    rw [hs1]
    refine g.ok.words (fun i hi => ?_)
    show FO j.s.ws (last.word.toNat / 8) name (16 + i) = _
    rw [mY]
    unfold FO
    rw [if_neg]
    rw [Ah0] at hi
    omega
  have Tj : ∀ p d, Ba s1 p d <-> Ba j.s p d := fun p d => by rw [hs1]; exact Iff.rfl
  have hCs : ∀ p ∈ C, ∀ d, ¬ Ba s p d := g.new
  have hbt : ∀ p ∈ blocks, ∃ d, Ba s p d := fun p hp => (htk p).2 (.inl hp)
  have hoC : o ∉ C := fun hc => hCs o hc _ a.tk
  have hKD := hperm.nodup_iff.1 a.m3
  obtain ⟨mK, mD, mKD⟩ := CW.1 hKD
  have hDk : ∀ p ∈ D, p ∈ Bc parts := fun p hp => hperm.mem_iff.2 (Bo _ hp)
  have hKk : ∀ p ∈ K, p ∈ Bc parts := fun p hp => hperm.mem_iff.2 (BB _ hp)
  have hkb : ∀ p ∈ Bc parts, p ∈ blocks := fun p hp => by rw [a.uK]; simp [hp]
  have hmd : ∀ p, p ∈ dl <-> p ∈ D \/ p = o := fun p => by rw [hdl.mem_iff]; simp
  have hdn : dl.Nodup := hdl.nodup_iff.2 (CW.2 ⟨mD, by simp, fun x hx y hy e => by rw [BD] at hy; exact a.n3 (hy ▸ e ▸ hDk x hx)⟩)
  have hdt : ∀ p ∈ dl, ∃ d, Ba s1 p d := fun p hp => by
    have hs : ∃ d, Ba s p d := ((hmd p).1 hp).elim (fun hd => hbt p (hkb p (hDk p hd))) (fun e => ⟨_, e ▸ a.tk⟩)
    obtain ⟨d, hd⟩ := hs
    exact ⟨d, (Tj p d).2 (g.keep p d trivial hd).1⟩
  obtain ⟨s2, ed, ok2, mZ, hd2, ws2, fG⟩ := Us dl ok1 hdn hdt
  have ee := Y4 dl ok1 hdn hdt
  rw [ed] at ee
  have fE : s1.sh = s.sh := by rw [hs1]; exact Ah0
  refine ⟨s2, by unfold DK; rw [if_neg (by simp), <- hs1]; exact ee, ?_⟩
  have hw2 : ∀ i, (i < 16 \/ 16 + s.sh.BM <= i) -> s2.ws i = if i = jw then name else j.s.ws i := fun i hi => by
    rw [ws2 i (by rw [fE]; exact hi), hw1]
  have hbd : ∀ p ∈ Tq, p ∉ dl := fun p hb hd => by
    rcases (hmd p).1 hd with h1 | h1
    · rcases AL.1 (hpm.mem_iff.1 hb) with h2 | h2
      · obtain ⟨d, hd⟩ := hbt p (hkb p (hDk p h1))
        exact hCs p h2 d hd
      · exact mKD p h2 p h1 rfl
    · subst h1
      rcases AL.1 (hpm.mem_iff.1 hb) with h2 | h2
      · exact hoC h2
      · exact a.n3 (hKk _ h2)
  have hbx : ∀ p, p ∈ b1 \/ p ∈ b2 -> p ∉ dl := fun p hp hd => by
    rcases (hmd p).1 hd with h1 | h1
    · exact hp.elim (fun h => a.d1 p h (hDk p h1)) (fun h => a.d2 p h (hDk p h1))
    · subst h1; exact hp.elim a.n1 a.n2
  -- the new tree stands behind the word and the Ao3
  have Ah1 : ∀ p c, p ∈ Tq -> Ba j.s p c -> Ba s2 p c /\ ∀ i, Gy p c i -> s2.ws i = j.s.ws i := fun p c hp ht => by
    refine ⟨(fG p c).2 ⟨(Tj p c).2 ht, hbd p hp⟩, fun i hi => ?_⟩
    have yg := g.ok.DC (ht.bounds g.ok).1 hi
    rw [Ah0] at yg
    rw [hw2 i (.inr yg), if_neg]
    intro e
    subst e
    rcases hj4 with ⟨_, h2⟩ | ⟨_, pp, cc, h2, h3, h4⟩
    · omega
    · obtain ⟨h3', _⟩ := g.keep pp cc trivial h3
      refine QJ g.ok ht h3' (fun e => ?_) hi h4 rfl
      subst e
      rcases AL.1 (hpm.mem_iff.1 hp) with h5 | h5
      · exact hCs p h5 cc h3
      · exact a.d1 p h2 (hKk p h5)
  have T2 : DJ s2 rl name Vf Tq := T.keep g.ok ok2 (B := fun p => p ∈ Tq) Ah1 (fun _ h => h)
  have T3 := S.swap s2 name Vf Tq ok2 hn T2 (fun p c hp ht => by
    obtain ⟨u1, u2⟩ := g.keep p c trivial ht
    refine ⟨(fG p c).2 ⟨(Tj p c).2 u1, hbx p hp⟩, fun i hi => ?_⟩
    have yg := ok.DC (ht.bounds ok).1 hi
    rw [hw2 i (.inr yg), hj1]
    by_cases e : i = jw
    · rw [if_pos e, if_pos (by omega)]
    · rw [if_neg e, if_neg (by omega), u2 i hi])
  have h9 : s2.ws 9 = if q = [] then name else s.ws 9 := by
    rw [hw2 9 (.inl (by decide))]
    rcases hj4 with ⟨h1, h2⟩ | ⟨h1, pp, cc, h2, h3, h4⟩
    · rw [if_pos h2.symm, if_pos h1]
    · have := ok.DC (h3.bounds ok).1 h4
      rw [if_neg (by omega), if_neg h1, g.low 9 (by decide)]
  rw [<- h9] at T3
  have h90 : s2.ws 9 ≠ 0 := by
    rw [h9]
    split
    · exact hn
    · exact hn0
  have hdb : ∀ p ∈ dl, p ∈ blocks := fun p hp => ((hmd p).1 hp).elim (fun h => hkb p (hDk p h)) (fun e => by rw [e, a.uK]; simp)
  have hXk : QM X s s2 := ⟨mZ.trans fE, fun i hi hi9 => by
      rw [hw2 i (.inl hi), if_neg, g.low i hi]
      rcases hj4 with ⟨_, h2⟩ | ⟨_, pp, cc, h2, h3, h4⟩
      · omega
      · have := ok.DC (h3.bounds ok).1 h4
        omega, fun p c hp ht => by
      obtain ⟨u1, u2⟩ := g.keep p c trivial ht
      refine ⟨(fG p c).2 ⟨(Tj p c).2 u1, fun hd => hX p (hdb p hd) hp⟩, fun i hi => ?_⟩
      have yg := ok.DC (ht.bounds ok).1 hi
      rw [hw2 i (.inr yg), if_neg, u2 i hi]
      intro e
      subst e
      rcases hj4 with ⟨_, h2⟩ | ⟨_, pp, cc, h2, h3, h4⟩
      · omega
      · refine QJ ok ht h3 (fun e => ?_) hi h4 rfl
        subst e
        exact hX p (by rw [a.uK]; simp [h2]) hp⟩
  refine ⟨hXk, ok2, fun p d hh => g.nh p d ((OO (by rw [hd2, hs1]) (by rw [mZ, hs1]) p d).1 hh), .inr ⟨b1 ++ Tq ++ b2, h90, T3, ?_, fun p hp hpX => ?_, fun p => ?_⟩, ?_⟩
  · have hp2 : (b1 ++ Tq ++ b2).Perm (b1 ++ (C ++ K) ++ b2) := List.Perm.append_right _ (List.Perm.append_left _ hpm)
    rw [hp2.nodup_iff]
    have hC1 : ∀ p ∈ C, p ∉ blocks := fun p hp hb => by
      obtain ⟨d, hd⟩ := hbt p hb
      exact hCs p hp d hd
    rw [a.uK] at hC1
    refine CW.2 ⟨CW.2 ⟨a.m1, CW.2 ⟨g.qo, mK, fun x hx y hy e => ?_⟩, fun x hx y hy e => ?_⟩, a.m2, fun x hx y hy e => ?_⟩
    · subst e
      exact hC1 x hx (by simp [hKk x hy])
    · subst e
      rcases AL.1 hy with h1 | h1
      · exact hC1 x h1 (by simp [hx])
      · exact a.d1 x hx (hKk x h1)
    · subst e
      rcases AL.1 hx with h1 | h1
      · exact a.d3 x h1 hy
      · rcases AL.1 h1 with h1 | h1
        · exact hC1 x h1 (by simp [hy])
        · exact a.d2 x hy (hKk x h1)
  · rcases AL.1 hp with h1 | h1
    · rcases AL.1 h1 with h1 | h1
      · exact hX p (by rw [a.uK]; simp [h1]) hpX
      · rcases AL.1 (hpm.mem_iff.1 h1) with h2 | h2
        · obtain ⟨d, hd⟩ := (htk p).2 (.inr hpX)
          exact hCs p h2 d hd
        · exact hX p (hkb p (hKk p h2)) hpX
    · exact hX p (by rw [a.uK]; simp [h1]) hpX
  · have h1 : (∃ d, Ba s2 p d) <-> (∃ d, Ba j.s p d) /\ p ∉ dl := by
      constructor
      · rintro ⟨d, hd⟩
        obtain ⟨h1, h2⟩ := (fG p d).1 hd
        exact ⟨⟨d, (Tj p d).1 h1⟩, h2⟩
      · rintro ⟨⟨d, hd⟩, h2⟩
        exact ⟨d, (fG p d).2 ⟨(Tj p d).2 hd, h2⟩⟩
    rw [h1, g.tk p, htk p, hmd p, a.uK]
    simp only [AL, D9, hpm.mem_iff, hperm.mem_iff]
    constructor
    · rintro ⟨h1 | h1, h2⟩
      · rcases h1 with ((h1 | h1 | h1 | h1) | h1) | h1
        · exact .inl (.inl (.inl h1))
        · exact absurd (.inr h1) h2
        · exact .inl (.inl (.inr (.inr h1)))
        · exact absurd (.inl h1) h2
        · exact .inl (.inr h1)
        · exact .inr h1
      · exact .inl (.inl (.inr (.inl h1)))
    · have hno : ∀ p, p ∈ b1 \/ p ∈ b2 \/ p ∈ C \/ p ∈ K -> ¬ (p ∈ D \/ p = o) := fun p hp hd => by
        have hd' := (hmd p).2 hd
        rcases hp with h | h | h | h
        · exact hbx p (.inl h) hd'
        · exact hbx p (.inr h) hd'
        · exact hbd p (hpm.mem_iff.2 (BB _ h)) hd'
        · exact hbd p (hpm.mem_iff.2 (Bo _ h)) hd'
      rintro (((h1 | h1 | h1) | h1) | h1)
      · exact ⟨.inl (.inl (.inl (.inl h1))), hno p (.inl h1)⟩
      · exact ⟨.inr h1, hno p (.inr (.inr (.inl h1)))⟩
      · exact ⟨.inl (.inl (.inl (.inr (.inr (.inl h1))))), hno p (.inr (.inr (.inr h1)))⟩
      · exact ⟨.inl (.inl (.inr h1)), hno p (.inr (.inl h1))⟩
      · exact ⟨.inl (.inr h1), fun hd => hX p (hdb p ((hmd p).2 hd)) h1⟩
  · intro kv hkv
    rw [AV] at hkv
    rcases AL.1 hkv with h1 | h1
    · exact h.even kv (by rw [S.its]; simp [h1])
    · rcases AL.1 h1 with h1 | h1
      · obtain ⟨k, h2, h3⟩ := Eb.1 h1
        rw [h3]
        exact hev _ h2
      · exact h.even kv (by rw [S.its]; simp [h1])
theorem Vl.below(a:Vl L s items blocks key last rest' q rl nl parts A B b1 b2 o)(hp:last.nd.pre≠rest'):∀kv,kv∈BZ last.nd++Bj last.nd.pre last.nd.labels parts->kv.1≠rest':=fun kv hkv e=>by
 rcases AL.1 hkv with h1| h1
 ·obtain⟨rfl,_⟩:=Fe h1;exact hp e
 ·obtain⟨i,i1,i2,kv',_,rfl⟩:=EJ h1;simp only at e;have hc:common last.nd.pre rest'=last.nd.pre.length:=by rw [<-e,RJ]
  have:Oz last.nd.labels (rest'.getD (common last.nd.pre rest') 0)=false:=by
   rcases a.stop with h1| h1| h1
   ·omega
   ·exact absurd (Q8 _ _ hc h1) hp
   ·exact aG a.right h1
  rw [hc,<-e,Bh,List.getElem?_append_right (Ae _),Nat.sub_self]at this;exact QC _ _ this i i1 rfl
theorem Ae5(h:QL X L s items)(hn0:s.ws 9≠0)(htk:∀o,(∃d,Ba s o d)<->o∈blocks\/X o)(hX:∀o∈blocks,¬X o)(_:blocks.Nodup)(Ala:key.length<=16)(a:Vl L s items blocks key last rest' q rl nl parts A B b1 b2 o)(hp:last.nd.pre≠rest')(value:UInt64)(hv:value≠0):
 uO X L s items (Di key) value (match I4 ⟨s,[]⟩ last.nd rest' value with| (j,name,e)=>DK j e last.word name [last.off]):=by
 have ok:=h.ok;have S:=a.spot;have hlen:=L8 key;have Ao4:q.length+rest'.length=(Di key).length:=by rw [S.cut,AQ]
 have Sm:rest'.all DR=true:=by
  have:=Xc key;rw [S.cut,List.all_append,Bool.and_eq_true]at this;exact this.2
 have hno:common last.nd.pre rest'=last.nd.pre.length->Oz last.nd.labels (rest'.getD (common last.nd.pre rest') 0)=false:=fun hc=>by
  rcases a.stop with h1| h1| h1
  ·omega
  ·exfalso;refine hp ?_;exact Q8 _ _ hc h1
  ·exact aG a.right h1
 have hG:=Ae2 ok h.nh a.right S.len S.pre S.kid S.sub (by have:=S.lens;omega) Sm hv hp hno;generalize I4 ⟨s,[]⟩ last.nd rest' value=res at hG;obtain⟨j,name,e⟩:=res;simp only;rcases hG with⟨e1,B',g⟩| ⟨e1,C,Vf,Tq,g,hn,T,hpm,hmem⟩
 ·simp only at e1 g;subst e1;simp only [DK];rw [if_pos (by decide)];obtain⟨s2,e2,ok2,nh2,fG,kp2,lo2,mZ⟩:=uN ok g;rw [e2];refine⟨⟨mZ,fun j hj _=>lo2 j hj,fun o c _ ht=>kp2 o c trivial ht⟩,?_⟩;refine .inl ⟨rfl,h.same ok2 nh2 fG kp2 (lo2 9 (by decide)),fun kv hkv e=> ?_⟩;rw [S.its,AV]at hkv;rcases AL.1 hkv with g1| g1
  ·exact a.other kv (.inl g1) e
  ·rcases AL.1 g1 with g1| g1
   ·obtain⟨k,g2,g3⟩:=Eb.1 g1;rw [g3,S.cut]at e;exact a.below hp _ g2 (Ec e)
   ·exact a.other kv (.inr g1) e
 ·simp only at e1 g hn T;subst e1;have hkey:Di key=q++rest':=S.cut;have hin:∀k v,(k,v)∈BZ last.nd++Bj last.nd.pre last.nd.labels parts->(q++k,v)∈items:=fun k v h4=>by
   rw [S.its,AV];exact Bo _ (BB _ (Eb.2 ⟨k,h4,rfl⟩))
  obtain⟨s2,e2,kx2,qU⟩:=aK h hn0 htk hX a.toOc g hn T (K:=Bc parts) (D:=[]) (dl:=[o]) (by simp) hpm (by simp) (fun kv hkv=>by
   obtain⟨k,v⟩:=kv;rcases(hmem _).1 hkv with h4| h4
   ·exact h.even _ (hin k v h4)
   ·have e1:k=rest':=congrArg Prod.fst h4;show MZ (q++k)=true;rw [e1,<-hkey];exact Vk key)
  rw [a.off,show [(o:Int)]=[o].map CE from rfl,e2];refine⟨kx2,?_⟩;right;refine⟨rfl,_,qU,?_⟩;intro kv;constructor
  ·intro hkv;rw [AV]at hkv;rcases AL.1 hkv with h1| h1
   ·exact .inr ⟨by rw [S.its];simp [h1],a.other kv (.inl h1)⟩
   ·rcases AL.1 h1 with h1| h1
    ·obtain⟨k,h2,h3⟩:=Eb.1 h1;rcases(hmem _).1 h2 with h4| h4
     ·refine .inr ⟨?_,?_⟩
      ·have:=hin k kv.2 h4
       rwa [<-h3]at this
      ·rw [h3,hkey];intro e;exact a.below hp _ h4 (Ec e)
     ·left;have e1:k=rest':=congrArg Prod.fst h4;have e2:kv.2=value:=congrArg Prod.snd h4;exact Prod.ext (by rw [h3,e1,hkey]) e2
    ·exact .inr ⟨by rw [S.its];simp [h1],a.other kv (.inr h1)⟩
  ·rintro(rfl| ⟨h1,h2⟩)
   ·rw [AV];exact Bo _ (BB _ (Eb.2 ⟨rest',(hmem _).2 (.inr rfl),hkey⟩))
   ·rw [S.its,AV]at h1;rw [AV];rcases AL.1 h1 with h3| h3
    ·exact BB _ h3
    ·rcases AL.1 h3 with h3| h3
     ·obtain⟨k,h4,h5⟩:=Eb.1 h3;exact Bo _ (BB _ (Eb.2 ⟨k,(hmem _).2 (.inl h4),h5⟩))
     ·exact Bo _ (Bo _ h3)
theorem qV(h:QL X L s items)(key:List UInt8)(hk:key.length<=16)(value:UInt64)(hv:value≠0):uO X L s items (Di key) value (GX s key value):=by
 by_cases h0:s.ws 9=0
 ·exact xZ h h0 key hk value hv
 ·rcases h.tree with⟨h1,_⟩| ⟨blocks,h1,T,hnd,hX,htk⟩
  ·exact absurd h1 h0
  ·obtain⟨way,last,rest',q,rl,nl,parts,A,B,b1,b2,o,hp,a⟩:=around h.ok h1 T hnd key hk;unfold GX;rw [if_neg (by omega),if_neg hv,hp];have hgl:(way++[last]).getLast? =some last:=by simp
   simp only [Dj,hgl];by_cases hpr:last.nd.pre=rest'
   ·rw [if_pos hpr];exact yf h h1 htk hX hnd a hpr value hv
   ·rw [if_neg hpr];exact Ae5 h h1 htk hX hnd hk a hpr value hv
theorem Ab0(h:QL X L s items):∃met:List Nat,EH s=some (items.map (fun kv=>(pairs kv.1,kv.2)),met.map CE)/\met.Nodup/\(∀o∈met,¬X o)/\∀o,(∃d,Ba s o d)<->o∈met\/X o:=by
 rcases h.tree with⟨h1,h2,h3⟩| ⟨blocks,h1,T,hnd,hX,htk⟩
 ·refine⟨[],?_,List.nodup_nil,(fun _ h=>nomatch h),fun o=>by simp [h3 o]⟩;unfold EH;rw [if_pos h1,h2];rfl
 ·refine⟨blocks,?_,hnd,hX,htk⟩;unfold EH;rw [if_neg h1];have:=T.Ahv h.ok 34 [] [] [] (by decide) (by decide) hnd (fun _ _ h=>by cases h) (fun kv hkv=>h.even kv hkv);simpa using this
end
section
variable{L:Nat}{s:St}
theorem N9:∀(f:Nat)(name:UInt64)(rest:List UInt8)(label:UInt8)(word:Int)(way:List Pl),Ee s f name rest label word way=(Ee s f name rest label word []).map fun p=>(way++p.1,p.2)
 | 0,_,_,_,_,way=>by simp [Ee]
 | f+1,name,rest,label,word,way=>by
   rw [Ee,Ee];split
   ·simp
   ·split
    ·rfl
    ·rename_i x _;split
     ·simp
     ·split
      ·simp
      ·rename_i kid number _;rw [N9 f kid _ _ _ (way++_),N9 f kid _ _ _ ([]++_)];cases Ee s f kid (rest.drop (common x.pre rest+1)) (rest.getD (common x.pre rest) 0) (Be name+8*number) []<;>simp
theorem aN{f:Nat}{name:UInt64}{rest:List UInt8}{label:UInt8}{word:Int}{W:List Pl}{rf:List UInt8}(h:Ee s (f+1) name rest label word []=some (W,rf))(hn:name≠0):∃x W',W=x::W'/\x.label=label/\x.word=word:=by
 rw [Ee,if_neg hn]at h;split at h
 ·cases h
 ·rename_i x _;split at h
  ·injection h with h;injection h with h1 h2
   exact⟨_,_,h1.symm,rfl,rfl⟩
  ·split at h
   ·injection h with h;injection h with h1 h2
    exact⟨_,_,h1.symm,rfl,rfl⟩
   ·rw [N9]at h;obtain⟨p,_,h2⟩:=OV.1 h;injection h2 with h3 h4
    exact⟨_,_,h3.symm,rfl,rfl⟩
theorem uQ(ok:BG L s):∀(m f r:Nat)(name:UInt64)(items:List Kv)(blocks:List Nat)(rest:List UInt8)(label:UInt8)(word:Int),DJ s r name items blocks->blocks.Nodup->rest.length<f->rest.length<=r->name≠0->
 ∀(W:List Pl)(rf:List UInt8),Ee s f name rest label word []=some (W,rf)->m+1<W.length->
 ∃up rest' q rl nl parts A B b1 b2 i f' w',W[m]? =some up/\VR L s r name items blocks word rest up rest' q rl nl parts A B b1 b2/\∃(h1:i<up.nd.kids.length)(h2:i<up.nd.labels.length),
  up.nd.pre++up.nd.labels[i]::rest'.drop (up.nd.pre.length+1)=rest'/\(rest'.drop (up.nd.pre.length+1)).length<f'/\up.nd.kids[i]≠0/\Ee s f' up.nd.kids[i] (rest'.drop (up.nd.pre.length+1)) up.nd.labels[i] w' []=some (W.drop (m+1),rf)
 | m,0,_,_,_,_,_,_,_,_,_,h,_,_,_,_,_,_=>absurd h (by omega)
 | m,f+1,r,name,items,blocks,rest,label,word,ht,hnd,hf,hrl,hn0,W,rf,hW,hm=>by
   cases ht with
   | mk _ _ nd parts hrd hpre NI hlen hk=>
     obtain⟨o,ho,htk,hr,hw⟩:=IZ ok hrd;rw [Ee,if_neg hn0,hrd]at hW
     dsimp only at hW
     by_cases h1:common nd.pre rest<nd.pre.length\/common nd.pre rest=rest.length
     ·rw [if_pos h1]at hW;injection hW with hW;injection hW with hW _
      rw [<-hW]at hm;simp at hm
     ·rw [if_neg h1]at hW;cases hkp:Oe nd (rest.getD (common nd.pre rest) 0)with
      | none=>
        rw [hkp]at hW;injection hW with hW;injection hW with hW _
        rw [<-hW]at hm;simp at hm
      | some kn=>
        obtain⟨kid,number⟩:=kn;obtain⟨hc,hlt,i,hi1,hi2,rfl,rfl,hlab,hcut⟩:=Vj hr h1 hkp;rw [hkp]at hW;simp only at hW;rw [hc,<-hlab,N9]at hW;obtain⟨p,hp,h2⟩:=OV.1 hW;obtain⟨W2,r2⟩:=p;injection h2 with h3 h4
        simp only at h3 h4;subst h4;subst h3;have hi3:i<parts.length:=by omega
        have hkr:=NI (fun e=>by rw [e]at hi1;simp at hi1);have hk0:nd.kids[i]≠0:=fun e=>((Bg nd).1 hr).2.2.2.2.2 i hi1 (by rw [e];rfl)
        have qR:=(GU.1 hnd).2;rw [Ku parts i hi3]at qR;have n4:=(CW.1 (CW.1 qR).2.1).1
        match m,hm with
        | 0,hm=>exact⟨⟨nd,Be name,label,word⟩,rest,[],r,name,parts,[],[],[],[],i,f,_,by simp,Vh hrd hpre NI hlen hk,hi1,hi2,hcut,by rw [AO];show rest.length- (nd.pre.length+1)<f;omega,hk0,by simpa using hp⟩
        | m+1,hm=>
          obtain⟨up,rest',q,rl,nl,Vg,A,B,b1,b2,i',f',w',e1,S,g1,g2,g3,g4,g5,g6⟩:=uQ ok m f (r-nd.pre.length-1) nd.kids[i] parts[i].items parts[i].blocks (rest.drop (nd.pre.length+1)) nd.labels[i] (Be name+8*(Om nd i:Nat)) (hk i hi1 hi3) n4 (by rw [AO];omega) (by rw [AO];omega) hk0 W2 r2 hp (by simpa using hm);exact⟨up,rest',_,rl,nl,Vg,_,_,_,_,i',f',w',by simpa using e1,aH ok ho htk hr hw hpre hlen hk hnd hi1 hi2 hi3 hkr hcut S,g1,g2,g3,g4,g5,by simpa using g6⟩
theorem Vm (ok : BG L s) : ∀ (f r : Nat) (name : UInt64) (items : List Kv) (blocks : List Nat) (rest : List UInt8) (label : UInt8) (word : Int), DJ s r name items blocks -> rest.length < f -> name ≠ 0 ->
    ∀ (W : List Pl) (rf : List UInt8) (last : Pl), Ee s f name rest label word [] = some (W, rf) -> Dj W rf = some last -> last.nd.kids.length = 0 -> last.nd.val ≠ 0 ->
    (∀ i up, i + 1 < W.length -> W[i]? = some up -> up.nd.val = 0 /\ up.nd.kids.length = 1) -> items = [(rest, last.nd.val)] /\ blocks.map CE = W.map (·.off)
  | 0, _, _, _, _, _, _, _, _, h, _, _, _, _, _, _, _, _, _ => absurd h (by omega)
  | f + 1, r, name, items, blocks, rest, label, word, ht, hf, hn0, W, rf, last, hW, hst, hk0, hv0, hup => by
    cases ht with
    | mk _ _ nd parts hrd hpre NI hlen hk =>
      obtain ⟨o, ho, htk, hr, hw⟩ := IZ ok hrd
      rw [Ee, if_neg hn0, hrd] at hW
      dsimp only at hW
      have hoff : CE (Be name).toNat = Be name := by rw [ho, BQ]; rfl
      have one : [(⟨nd, Be name, label, word⟩ : Pl)] = W -> rest = rf -> BZ nd ++ Bj nd.pre nd.labels parts = [(rest, last.nd.val)] /\ ((Be name).toNat :: Bc parts).map CE = W.map (·.off) := fun e1 e2 => by
        subst e1
        subst e2
        unfold Dj at hst
        simp only [List.getLast?_singleton] at hst
        split at hst
        · rename_i hpr
          injection hst with hst
          subst hst
          simp only at hk0 hv0 hpr ⊢
          have hp0 : parts = [] := List.length_eq_zero_iff.1 (by omega)
          subst hp0
          unfold BZ
          rw [if_pos hv0, hpr]
          have : Bj rest nd.labels [] = [] := by cases nd.labels <;> rfl
          rw [this]
          exact ⟨rfl, by rw [Cf, hoff]; rfl⟩
        · cases hst
      by_cases h1 : common nd.pre rest < nd.pre.length \/ common nd.pre rest = rest.length
      · rw [if_pos h1] at hW
        injection hW with hW; injection hW with e1 e2
        exact one (by simpa using e1) e2
      · rw [if_neg h1] at hW
        cases hkp : Oe nd (rest.getD (common nd.pre rest) 0) with
        | none =>
          rw [hkp] at hW
          injection hW with hW; injection hW with e1 e2
          exact one (by simpa using e1) e2
        | some kn =>
          obtain ⟨kid, number⟩ := kn
          obtain ⟨hc, hlt, i, hi1, hi2, rfl, rfl, hlab, hcut⟩ := Vj hr h1 hkp
          rw [hkp] at hW
          simp only at hW
          rw [hc, <- hlab, N9] at hW
          obtain ⟨p, hp, h2⟩ := OV.1 hW
          obtain ⟨W2, r2⟩ := p
          injection h2 with h3 h4
          simp only at h3 h4
          subst h4
          subst h3
          have hk1 : nd.kids[i] ≠ 0 := fun e => ((Bg nd).1 hr).2.2.2.2.2 i hi1 (by rw [e]; rfl)
          obtain ⟨f', rfl⟩ : ∃ f', f = f' + 1 := ⟨f - 1, by omega⟩
          obtain ⟨x, W3, rfl, _, _⟩ := aN hp hk1
          obtain ⟨hv, hl1⟩ := hup 0 ⟨nd, Be name, label, word⟩ (by simp) (by simp)
          simp only at hv hl1
          obtain rfl : i = 0 := by omega
          have hll : nd.labels.length = 1 := by have := ((Bg nd).1 hr).2.2.1; omega
          obtain ⟨p, hp0⟩ : ∃ p, parts = [p] := gY.1 (by omega)
          subst hp0
          obtain ⟨lb, hlb⟩ : ∃ lb, nd.labels = [lb] := gY.1 hll
          have hst2 : Dj (x :: W3) r2 = some last := by
            unfold Dj at hst ⊢
            simpa using hst
          have ih := Vm ok (f' + 1) (r - nd.pre.length - 1) nd.kids[0] p.items p.blocks (rest.drop (nd.pre.length + 1)) nd.labels[0] _ (hk 0 hi1 (by simp)) (by rw [AO]; omega) hk1 (x :: W3) r2 last hp hst2 hk0 hv0 (fun t up ht hup' => hup (t + 1) up (by simpa using ht) (by simpa using hup'))
          refine ⟨?_, ?_⟩
          · have hcut' : nd.pre ++ lb :: rest.drop (nd.pre.length + 1) = rest := by
              have : nd.labels[0] = lb := by simp [hlb]
              rw [this] at hcut; exact hcut
            rw [hlb]
            unfold BZ
            rw [if_neg (by simp [hv])]
            simp only [Bj, Et, YL, ih.1, Fa, Cf, FY]
            rw [hcut']
          · simp only [Bc, Cf, FY, List.flatten_cons, List.flatten_nil, YL]
            rw [ih.2, hoff]
            rfl
theorem Y5(W:List Pl):∀(m:Nat)(_:m<W.length)(old:List Int),∃a,a<=m/\I5 W m old=(a,old++(((W.drop a).take (m-a)).map (·.off)).reverse)/\∀i up,a<=i->i<m->W[i]? =some up->up.nd.val=0/\up.nd.kids.length=1
 | 0,_,old=>⟨0,Ae _,by simp [I5],fun i up h1 h2=>absurd h2 (by omega)⟩
 | m+1,h,old=>by
   have hm:m<W.length:=by omega
   rw [I5,Ag hm,Ag h]
   dsimp only
   split
   ·rename_i hu;obtain⟨a,h1,h2,h3⟩:=Y5 W m hm (old++[W[m].off]);refine⟨a,by omega,?_,fun i up g1 g2 g3=> ?_⟩
    ·rw [h2,show m+1-a=(m-a)+1 by omega,List.take_succ_eq_append_getElem (by rw [AO];omega),List.map_append,List.reverse_append];have:(W.drop a)[m-a]'(by rw [AO];omega)=W[m]:=by rw [VY];congr 1;omega
     simp [this]
    ·by_cases e:i=m
     ·subst e;rw [Ag hm]at g3;injection g3 with g3
      exact g3▸hu
     ·exact h3 i up g1 (by omega) g3
   ·exact⟨m+1,Ae _,by simp,fun i up g1 g2=>absurd g2 (by omega)⟩
end
end Go.Proofs.YtjcppneoncpdbaaGreatDoor
