import Derived.Test.YtkimaejoeapmnaaGreatDoorG31
open List renaming mem_cons_self->Bq,mem_cons_of_mem->BO,getElem_set->MO,length_set->Dh,getD_eq_getElem?_getD->Bh,getElem?_eq_getElem->Af,drop_eq_getElem_cons->Ea,append_assoc->AX,nodup_cons->Ht,nodup_append->Cj,getElem?_map->BZ,getElem?_range->TA,cons_append->CJ,length_append->AQ,mem_append->AL,mem_map->Bf,length_drop->AV,getElem_drop->Adq,ext_getElem->EH,getElem_set_self->QM,getElem_set_ne->yc,mem_flatten->MP,map_cons->BU,foldl_cons->Aho,mem_cons->CZ,nil_append->Fz,mem_singleton->BC,mem_append_right->Bj,mem_append_left->BD,append_cancel_left->Em,length_eq_one_iff->kZ,append_nil->aC,map_nil->Gq
open Int renaming toNat_natCast->Cm,ofNat->Cc
open Nat renaming le_refl->Ad
open Option renaming map_eq_some_iff->P7
namespace Go.Proofs.YtkimaejoeapmnaaGreatDoor
theorem Gn(ws:Nat->UInt64)(j n t:Nat)(h:t<(wordsAt ws j n).length):(wordsAt ws j n)[t]=ws (j+t):=by
 simp [wordsAt]
theorem RF:∀(ls:List UInt8)(ks:List UInt64)(row:List UInt64)(j:Nat)(k:UInt64),(∀b∈ls,4+b.toNat≠j)->CP (row.set j k) ls ks=(CP row ls ks).set j k
 | [],ks,row,j,k,_=>by cases ks<;>simp [CP]
 | a::ls,[],row,j,k,_=>by simp [CP]
 | a::ls,k0::ks,row,j,k,h=>by
   rw [CP,CP,<-List.set_comm _ _ (h a (Bq ..)),RF ls ks _ j k (fun b hb=>h b (BO _ hb))]
theorem RG:∀(ls:List UInt8)(ks:List UInt64)(row:List UInt64)(i:Nat)(k:UInt64)(h1:i<ls.length),ls.length=ks.length->DT ls=true->CP row ls (ks.set i k)=(CP row ls ks).set (4+ls[i].toNat) k
 | a::ls,k0::ks,row,0,k,_,_,hr=>by
   obtain⟨_,h2⟩:=JW hr;rw [List.set_cons_zero,CP,CP];have h3:∀b∈ls,4+b.toNat≠4+a.toNat:=fun b hb=>by have:=h2 b hb;omega
   rw [RF ls ks row _ k h3,RF ls ks row _ k0 h3];simp only [List.getElem_cons_zero,List.set_set]
 | a::ls,k0::ks,row,i+1,k,h1,hl,hr=>by
   obtain⟨h3,_⟩:=JW hr;rw [List.set_cons_succ,CP,CP,RG ls ks _ i k (by simpa using h1) (by simpa using hl) h3];rfl
def JY(x:Nd)(i:Nat)(k:UInt64):Nd:={x with kids:=x.kids.set i k}
theorem pM{x:Nd}(h:Ci x=true)(i:Nat){k:UInt64}(hk:k≠0):Ci (JY x i k)=true:=by
 obtain⟨h1,h2,h3,h4,h5,h6⟩:=(Bo x).1 h;rw [Bo];have aux:∀j(hj:j<(x.kids.set i k).length),(x.kids.set i k)[j].toNat≠0:=fun j hj=>by
  rw [MO];split
  ·exact Af7 hk
  ·exact h6 j (by rwa [Dh]at hj)
 exact⟨h1,h2,by show _=(x.kids.set i k).length;rw [Dh];exact h3,h4,h5,aux⟩
theorem Xl(x:Nd)(i:Nat)(k:UInt64):Dn (JY x i k)=Dn x:=by
 unfold Dn JY;rw [Dh]
theorem Aca{x:Nd}(h:Ci x=true){i:Nat}(hi:i<x.kids.length)(k:UInt64):DX (JY x i k)=(DX x).set (O8 x i) k:=by
 obtain⟨h1,h2,h3,h4,h5,h6⟩:=(Bo x).1 h;unfold DX O8;rw [show(JY x i k).kids=x.kids.set i k from rfl,Dh];by_cases h4':x.kids.length<=4
 ·rw [if_pos h4',if_pos h4',if_pos h4'];unfold encS;rw [show(JY x i k).kids=x.kids.set i k from rfl,show(JY x i k).pre=x.pre from rfl,show(JY x i k).val=x.val from rfl,show(JY x i k).labels=x.labels from rfl,Dh];rw [List.set_append_left _ _ (by simp;omega),List.set_append_right _ _ (by simp)];simp
 ·rw [if_neg h4',if_neg h4',if_neg h4'];unfold QP;rw [show headB (JY x i k)=headB x by unfold headB;rw [show(JY x i k).kids=x.kids.set i k from rfl,Dh];rfl,show(JY x i k).labels=x.labels from rfl,show(JY x i k).kids=x.kids.set i k from rfl];rw [RG x.labels x.kids (headB x) i k (by omega) h3 h5,Xk (by omega)]
theorem Acb{x:Nd}(h:Ci x=true){lab:UInt8}{kid:UInt64}{number:Nat}(hk:Ov x lab=some (kid,number)):∃(i:Nat)(h1:i<x.kids.length)(h2:i<x.labels.length),x.labels[i]=lab/\kid=x.kids[i]/\number=O8 x i:=by
 have hl:=((Bo x).1 h).2.2.1;unfold Ov at hk;split at hk
 ·rename_i i hf;rw [if_pos h]at hk;simp only [Option.some.injEq,Prod.mk.injEq]at hk;unfold Jr at hf;obtain⟨hi,hp,_⟩:=List.findIdx?_eq_some_iff_getElem.1 hf;have he:x.labels[i]=lab:=UInt8.toNat_inj.1 (by simpa using hp);refine⟨i,by omega,hi,he,?_,?_⟩
  ·rw [<-hk.1,Bh,Af (by omega)];rfl
  ·rw [<-hk.2];unfold O8;rw [Xk hi,he]
 ·cases hk
theorem fA{x:Nd}(h:Ci x=true){lab:UInt8}(hk:Ov x lab=none):OG x.labels lab=false:=by
 unfold Ov at hk;split at hk
 ·rw [if_pos h]at hk;cases hk
 ·rename_i hf;unfold Jr at hf;rw [List.findIdx?_eq_none_iff]at hf;unfold OG;rw [List.any_eq_false];intro y hy;have:=hf y hy;simpa using this
theorem RH(pre:List UInt8)(ls:List UInt8)(ps:List Part)(i:Nat)(h1:i<ls.length)(h2:i<ps.length)(h:ls.length=ps.length):
 Bl pre ls ps=Bl pre (ls.take i) (ps.take i)++(EJ pre ls[i] ps[i].items++Bl pre (ls.drop (i+1)) (ps.drop (i+1))):=by
 rw [RD pre ls ps i h,Ea h1,Ea h2];rfl
theorem Kz(ps:List Part)(i:Nat)(h2:i<ps.length):AY ps=AY (ps.take i)++(ps[i].blocks++AY (ps.drop (i+1))):=by
 rw [Q8 ps i,Ea h2];rfl
def SX(q:List UInt8)(l:List Kv):List Kv:=l.map fun kv=>(q++kv.1,kv.2)
theorem pO(l:List Kv):SX [] l=l:=by simp [SX]
theorem Xm(pre:List UInt8)(lb:UInt8)(q:List UInt8)(A l B:List Kv):EJ pre lb (A++SX q l++B)=EJ pre lb A++SX (pre++lb::q) l++EJ pre lb B:=by
 unfold EJ SX;simp [List.map_map,Function.comp_def,AX]
structure Xn(L:Nat)(s:St)(r:Nat)(name:UInt64)(items:List Kv)(blocks:List Nat)(word:Int)(rest:List UInt8)(last:Pl)(rest' q:List UInt8)(rl:Nat)(nl:UInt64)(parts:List Part)(A B:List Kv)(b1 b2:List Nat):Prop where
 rd:EZ s nl=some last.nd
 off:Bi nl=last.off
 pre:last.nd.pre.length<=rl
 kid:last.nd.kids≠[]->last.nd.pre.length+1<=rl
 len:parts.length=last.nd.kids.length
 sub:∀i(h1:i<last.nd.kids.length)(h2:i<parts.length),DF s (rl-last.nd.pre.length-1) last.nd.kids[i] parts[i].items parts[i].blocks
 cut:rest=q++rest'
 lens:q.length+rl=r
 its:items=A++SX q (BX last.nd++Bl last.nd.pre last.nd.labels parts)++B
 zB:blocks=b1++(last.off.toNat::AY parts)++b2
 lo:∀kv∈A,∀t,Op.bytesLess kv.1 (q++t)=true
 hi:∀kv∈B,∀t,Op.bytesLess (q++t) kv.1=true
 wd:(q=[]/\last.word=word/\nl=name)\/(q≠[]/\∃p c j,p∈b1/\AP s p c/\H8 p c j/\last.word=((8*j:Nat):Int)/\s.ws j=nl)
 swap:∀(s':St)(name':UInt64)(Wj:List Kv)(Ui:List Nat),BA L s'->name'≠0->DF s' rl name' Wj Ui->(∀o c,(o∈b1\/o∈b2)->AP s o c->AP s' o c/\∀j,H8 o c j->s'.ws j=if((8*j:Nat):Int)=last.word then name' else s.ws j)->
  DF s' r (if q=[]then name' else name) (A++SX q Wj++B) (b1++Ui++b2)
structure Auk(L:Nat)(s:St)(r:Nat)(name:UInt64)(items:List Kv)(blocks:List Nat)(word:Int)(rest:List UInt8)(last:Pl)(rest' q:List UInt8)(rl:Nat)(nl:UInt64)(parts:List Part)(A B:List Kv)(b1 b2:List Nat):Prop extends Xn L s r name items blocks word rest last rest' q rl nl parts A B b1 b2 where
 stop:common last.nd.pre rest'<last.nd.pre.length\/common last.nd.pre rest'=rest'.length\/Ov last.nd (rest'.getD (common last.nd.pre rest') 0)=none
section
variable{L:Nat}{s:St}
theorem RI(ok:BA L s){o p c d j k:Nat}(h:AP s o c)(k1:AP s p d)(hne:o≠p)(hj:H8 o c j)(hk:H8 p d k):j≠k:=fun e=>by
 subst e;exact Md (pq ok h k1 hne) (h.bounds ok).2.2 (k1.bounds ok).2.2 hj hk
theorem fB(ok:BA L s){r:Nat}{name:UInt64}{nd:Nd}{parts:List Part}{o:Nat}{rest Ak1:List UInt8}{word:Int}{i:Nat}(ho:Bi name=o)(htk:AP s o (Dn nd))(hr:Ci nd=true)(hw:wordsAt s.ws (o/8) (8*Be (Dn nd))=DX nd)
 (hpre:nd.pre.length<=r)(hlen:parts.length=nd.kids.length)
 (hk:∀i(h1:i<nd.kids.length)(h2:i<parts.length),DF s (r-nd.pre.length-1) nd.kids[i] parts[i].items parts[i].blocks)(hnd:((Bi name).toNat::AY parts).Nodup)(hi1:i<nd.kids.length)(hi2:i<nd.labels.length)(hi3:i<parts.length)(hkr:nd.pre.length+1<=r)(hcut:nd.pre++nd.labels[i]::Ak1=rest)
 {last:Pl}{rest' q0:List UInt8}{rl:Nat}{nl:UInt64}{Wl:List Part}{A0 B0:List Kv}{b10 b20:List Nat}
 (S:Xn L s (r-nd.pre.length-1) nd.kids[i] parts[i].items parts[i].blocks (Bi name+8*(O8 nd i:Nat)) Ak1 last rest' q0 rl nl Wl A0 B0 b10 b20):
 Xn L s r name (BX nd++Bl nd.pre nd.labels parts) ((Bi name).toNat::AY parts) word rest last rest' (nd.pre++nd.labels[i]::q0) rl nl Wl (BX nd++Bl nd.pre (nd.labels.take i) (parts.take i)++EJ nd.pre nd.labels[i] A0) (EJ nd.pre nd.labels[i] B0++Bl nd.pre (nd.labels.drop (i+1)) (parts.drop (i+1))) (o::AY (parts.take i)++b10) (b20++AY (parts.drop (i+1))):=by
 have hr':=(Bo nd).1 hr;obtain⟨hnd1,bH⟩:=Ht.1 hnd;have hkb:=Kz parts i hi3;have Ak2:=bH;rw [hkb]at Ak2;obtain⟨n1,n2,n3⟩:=Cj.1 Ak2;obtain⟨n4,n5,n6⟩:=Cj.1 n2;rw [ho]at hnd1;rw [Cm]at hnd1;obtain⟨pf1,pf2,_⟩:=wU nd hr i hi1;have hpos:(DX nd)[O8 nd i]? =some nd.kids[i]:=zx nd hr i hi1;have lY:=htk.bounds ok;have hlw:=JX nd;have hpw:H8 o (Dn nd) (o/8+O8 nd i):=⟨by omega,by omega⟩;have hwp:s.ws (o/8+O8 nd i)=nd.kids[i]:=by
  rw [<-hw]at hpos;unfold wordsAt at hpos;rw [BZ,TA (by omega)]at hpos;simpa using hpos
 have hword:∃p c j,(p=o\/p∈b10)/\AP s p c/\H8 p c j/\last.word=((8*j:Nat):Int)/\s.ws j=nl:=by
  rcases S.wd with⟨e1,e2,e3⟩| ⟨_,p,c,j,h1,h2,h3,h4,h5⟩
  ·refine⟨o,_,_,.inl rfl,htk,hpw,?_,by rw [hwp,e3]⟩;rw [e2,ho];omega
  ·exact⟨p,c,j,.inr h1,h2,h3,h4,h5⟩
 have VK:∀p∈b10,p∈parts[i].blocks:=fun p hp=>by rw [S.zB];simp [hp]
 have Al0:∀p∈b20,p∈parts[i].blocks:=fun p hp=>by rw [S.zB];simp [hp]
 have Arj:∀j(h:j<nd.labels.length),j<i->nd.labels[j].toNat<nd.labels[i].toNat:=fun j h hji=>Iq _ hr'.2.2.2.2.1 j i hji hi2
 have Amz:∀j(h:j<nd.labels.length),i<j->nd.labels[i].toNat<nd.labels[j].toNat:=fun j h hji=>Iq _ hr'.2.2.2.2.1 i j hji h
 refine⟨S.rd,S.off,S.pre,S.kid,S.len,S.sub,?_,?_,?_,?_,?_,?_,?_,?_⟩
 ·rw [AX,CJ,<-S.cut];exact hcut.symm
 ·have:=S.lens;simp only [AQ,List.length_cons];omega
 ·rw [RH nd.pre nd.labels parts i hi2 hi3 (by omega),S.its,Xm];simp only [AX]
 ·rw [ho,Cm,hkb,S.zB];simp only [AX,CJ]
 ·intro kv hkv t;rw [AX,CJ];rcases AL.1 hkv with h| h
  ·rcases AL.1 h with h| h
   ·obtain⟨rfl,_⟩:=Ff h;exact eX _ _ _
   ·obtain⟨j,j1,j2,kv',_,rfl⟩:=EG h;simp only [List.length_take]at j1;rw [List.getElem_take,Nr];exact Ug (Arj j (by omega) (by omega)) _ _
  ·obtain⟨kv',h',rfl⟩:=Bf.1 h;have:=S.lo kv' h' t;show Op.bytesLess (nd.pre++nd.labels[i]::kv'.1) _=true;rw [Nr];simp [Op.bytesLess,this]
 ·intro kv hkv t;rw [AX,CJ];rcases AL.1 hkv with h| h
  ·obtain⟨kv',h',rfl⟩:=Bf.1 h;have:=S.hi kv' h' t;show Op.bytesLess _ (nd.pre++nd.labels[i]::kv'.1)=true;rw [Nr];simp [Op.bytesLess,this]
  ·obtain⟨j,j1,j2,kv',_,rfl⟩:=EG h;simp only [AV]at j1;rw [Adq,Nr];exact Ug (Amz _ (by omega) (by omega)) _ _
 ·right;refine⟨by simp,?_⟩;obtain⟨p,c,j,h1,h2⟩:=hword;refine⟨p,c,j,?_,h2⟩;rcases h1 with rfl| h1
  ·simp
  ·simp [h1]
 ·intro s' name' Wj Ui ok' hn' T' hkeep;obtain⟨pw,cw,jw,Aul,Aum,Aun,Auo,Awj⟩:=hword;have Af9:∀p c j,p≠pw->AP s p c->H8 p c j->¬((8*j:Nat):Int)=last.word:=fun p c j hp ht hj e=>by
   have:=RI ok ht Aum hp hj Aun;rw [Auo]at e;omega
  have T0:=S.swap s' name' Wj Ui ok' hn' T' (fun p c hp ht=>hkeep p c (by
   rcases hp with hp| hp
   ·left;simp [hp]
   ·right;simp [hp]) ht)
  obtain⟨RJ,zC⟩:∃k,k=(if q0=[]then name' else nd.kids[i]):=⟨_,rfl⟩;rw [<-zC]at T0;have hk0':RJ≠0:=by
   rw [zC];split
   ·exact hn'
   ·exact fun e=>hr'.2.2.2.2.2 i hi1 (by rw [e];rfl)
  obtain⟨t1,t2⟩:=hkeep o _ (by left;simp) htk;have hread:EZ s' name=some (JY nd i RJ):=by
   refine Yf ok' ho (by rw [Xl];exact t1) (pM hr i hk0') ?_;rw [Xl,Aca hr hi1 RJ];refine EH (by simp [wordsAt,hlw]) fun t g1 g2=> ?_
   have htl:t<8*Be (Dn nd):=by simpa [wordsAt]using g1
   have hold:s.ws (o/8+t)=(DX nd)[t]'(by omega):=by
    have:(wordsAt s.ws (o/8) (8*Be (Dn nd)))[t]? =(DX nd)[t]? :=by rw [hw]
    unfold wordsAt at this;rw [BZ,TA htl,Af (by omega)]at this;simpa using this
   have hib:H8 o (Dn nd) (o/8+t):=⟨by omega,by omega⟩;rw [Gn,t2 _ hib,MO];rcases S.wd with⟨e1,e2,e3⟩| ⟨e1,p,c,j,p1,p2,p3,p4,p5⟩
   ·have hkn:RJ=name':=by rw [zC,if_pos e1]
    by_cases e:t=O8 nd i
    ·rw [if_pos (by rw [e2,ho];omega),if_pos e.symm,hkn]
    ·rw [if_neg (by rw [e2,ho];omega),if_neg (fun h=>e h.symm)];exact hold
   ·have hkn:RJ=nd.kids[i]:=by rw [zC,if_neg e1]
    have hpo:p≠o:=fun e=>hnd1 (by rw [<-e,hkb];simp [VK p p1])
    have:¬((8*(o/8+t):Nat):Int)=last.word:=fun e=>by
     have:=RI ok htk p2 (fun e=>hpo e.symm) hib p3;rw [p4]at e;omega
    rw [if_neg this];by_cases e:O8 nd i=t
    ·subst e;rw [if_pos rfl,hkn,hwp]
    ·rw [if_neg e];exact hold
  have T2:=DF.mk (s:=s') r name (JY nd i RJ) (parts.set i ⟨A0++SX q0 Wj++B0,b10++Ui++b20⟩) hread hpre (fun _=>hkr) (by show _=(nd.kids.set i RJ).length;rw [Dh,Dh];exact hlen) (fun t g1 g2=>by
   have g1':t<nd.kids.length:=by have:t<(nd.kids.set i RJ).length:=g1;rwa [Dh]at this
   have g2':t<parts.length:=by rwa [Dh]at g2
   by_cases e:i=t
   ·subst e;have e1:(JY nd i RJ).kids[i]=RJ:=by show(nd.kids.set i RJ)[i]'(by rw [Dh];exact hi1)=RJ;rw [QM]
    have e2:(parts.set i ⟨A0++SX q0 Wj++B0,b10++Ui++b20⟩)[i]=⟨A0++SX q0 Wj++B0,b10++Ui++b20⟩:=by rw [QM]
    rw [e1,e2];exact T0
   ·have e1:(JY nd i RJ).kids[t]=nd.kids[t]:=by show(nd.kids.set i RJ)[t]'(by rw [Dh];exact g1')=nd.kids[t];rw [yc e]
    have e2:(parts.set i ⟨A0++SX q0 Wj++B0,b10++Ui++b20⟩)[t]=parts[t]:=by rw [yc e]
    rw [e1,e2];refine(hk t g1' g2').keep ok ok' (B:=fun p=>p∈parts[t].blocks) (fun p c hp ht=> ?_) (fun _ h=>h);have Am0:p∈AY (parts.take i)\/p∈AY (parts.drop (i+1)):=by
     unfold AY;rcases Nat.lt_or_gt_of_ne e with h| h
     ·right;exact MP.2 ⟨_,Bf.2 ⟨parts[t],List.mem_drop_iff_getElem.2 ⟨t- (i+1),by omega,by simp only [show i+1+(t- (i+1))=t by omega]⟩,rfl⟩,hp⟩
     ·left;exact MP.2 ⟨_,Bf.2 ⟨parts[t],List.mem_take_iff_getElem.2 ⟨t,by omega,rfl⟩,rfl⟩,hp⟩
    obtain⟨u1,u2⟩:=hkeep p c (by
     rcases Am0 with h| h
     ·left;simp [h]
     ·right;simp [h]) ht
    refine⟨u1,fun j hj=> ?_⟩;rw [u2 j hj,if_neg];refine Af9 p c j (fun e'=> ?_) ht hj;subst e';rcases Aul with h| h
    ·subst h;refine hnd1 ?_;rw [hkb];rcases Am0 with h| h<;>simp [h]
    ·have h':=VK _ h;rcases Am0 with h2| h2
     ·exact n3 _ h2 _ (by simp [h']) rfl
     ·exact n6 _ h' _ h2 rfl)
  rw [if_neg (by simp)];have hl2:i<(parts.set i (⟨A0++SX q0 Wj++B0,b10++Ui++b20⟩:Part)).length:=by rw [Dh];exact hi3
  rw [ho,Cm,show(JY nd i RJ).pre=nd.pre from rfl,show(JY nd i RJ).labels=nd.labels from rfl,show BX (JY nd i RJ)=BX nd from rfl,
   RH nd.pre nd.labels _ i hi2 hl2 (by rw [Dh];omega),Kz _ i hl2]at T2
  simp only [QM,List.take_set_of_le (Ad i),List.drop_set_of_lt (Nat.lt_succ_self i)]at T2;rw [Xm]at T2;simpa only [AX,CJ]using T2
theorem Wn{r:Nat}{name:UInt64}{nd:Nd}{parts:List Part}{rest:List UInt8}{label:UInt8}{word:Int}(hrd:EZ s name=some nd)(hpre:nd.pre.length<=r)(Na:nd.kids≠[]->nd.pre.length+1<=r)(hlen:parts.length=nd.kids.length)
 (hk:∀i(h1:i<nd.kids.length)(h2:i<parts.length),DF s (r-nd.pre.length-1) nd.kids[i] parts[i].items parts[i].blocks):
 Xn L s r name (BX nd++Bl nd.pre nd.labels parts) ((Bi name).toNat::AY parts) word rest ⟨nd,Bi name,label,word⟩ rest [] r name parts [] [] [] []:=
 ⟨hrd,rfl,hpre,Na,hlen,hk,rfl,by simp,by simp [pO],by simp,(fun _ h=>by cases h),(fun _ h=>by cases h),.inl ⟨rfl,rfl,rfl⟩,fun s' name' Wj Ui _ _ T _=>by simpa [pO]using T⟩
theorem Wp{nd:Nd}{rest:List UInt8}{kid:UInt64}{number:Nat}(hr:Ci nd=true)(h1:¬(common nd.pre rest<nd.pre.length\/common nd.pre rest=rest.length))(hkp:Ov nd (rest.getD (common nd.pre rest) 0)=some (kid,number)):
 common nd.pre rest=nd.pre.length/\nd.pre.length<rest.length/\∃(i:Nat)(hi1:i<nd.kids.length)(hi2:i<nd.labels.length),kid=nd.kids[i]/\number=O8 nd i/\nd.labels[i]=rest.getD nd.pre.length 0/\nd.pre++nd.labels[i]::rest.drop (nd.pre.length+1)=rest:=by
 obtain⟨i,hi1,hi2,hlab,rfl,rfl⟩:=Acb hr hkp;have hc:common nd.pre rest=nd.pre.length:=by have:=IL nd.pre rest;omega
 have hlt:nd.pre.length<rest.length:=by have:=Fp nd.pre rest;omega
 have hct:=QO nd.pre rest;rw [hc]at hct hlab;rw [List.take_length]at hct;have hcut:=Ajj hlt;rw [<-hct,<-hlab]at hcut;exact⟨hc,hlt,i,hi1,hi2,rfl,rfl,hlab,hcut⟩
theorem fC(ok:BA L s):∀(f r:Nat)(name:UInt64)(items:List Kv)(blocks:List Nat)(rest:List UInt8)(label:UInt8)(word:Int)(way:List Pl),DF s r name items blocks->blocks.Nodup->rest.length<f->rest.length<=r->name≠0->
 ∃last rest' q rl nl parts A B b1 b2 Aga,Ep s f name rest label word way=some (way++Aga++[last],rest')/\Auk L s r name items blocks word rest last rest' q rl nl parts A B b1 b2
 | 0,_,_,_,_,_,_,_,_,_,_,h,_,_=>absurd h (by omega)
 | f+1,r,name,items,blocks,rest,label,word,way,ht,hnd,hf,hrl,hn0=>by
   cases ht with
   | mk _ _ nd parts hrd hpre Na hlen hk=>
     obtain⟨o,ho,htk,hr,hw⟩:=H9 ok hrd;rw [Ep,if_neg hn0,hrd]
     dsimp only
     by_cases h1:common nd.pre rest<nd.pre.length\/common nd.pre rest=rest.length
     ·rw [if_pos h1];exact⟨⟨nd,Bi name,label,word⟩,_,_,_,_,_,_,_,_,_,[],by simp,⟨Wn hrd hpre Na hlen hk,h1.imp id .inl⟩⟩
     ·rw [if_neg h1];cases hkp:Ov nd (rest.getD (common nd.pre rest) 0)with
      | none=>exact⟨⟨nd,Bi name,label,word⟩,_,_,_,_,_,_,_,_,_,[],by simp,⟨Wn hrd hpre Na hlen hk,.inr (.inr hkp)⟩⟩
      | some kn=>
        obtain⟨kid,number⟩:=kn;obtain⟨hc,hlt,i,hi1,hi2,rfl,rfl,hlab,hcut⟩:=Wp hr h1 hkp;have hi3:i<parts.length:=by omega
        have hkr:=Na (fun e=>by rw [e]at hi1;simp at hi1);have bH:=(Ht.1 hnd).2;rw [Kz parts i hi3]at bH;have n4:=(Cj.1 (Cj.1 bH).2.1).1;obtain⟨last,rest',q0,rl,nl,Wl,A0,B0,b10,b20,Aga,hp,S⟩:=fC ok f (r-nd.pre.length-1) nd.kids[i] parts[i].items parts[i].blocks (rest.drop (nd.pre.length+1)) (rest.getD (common nd.pre rest) 0) (Bi name+8*(O8 nd i:Nat)) (way++[⟨nd,Bi name,label,word⟩]) (hk i hi1 hi3) n4 (by rw [AV];omega) (by rw [AV];omega) (fun e=>((Bo nd).1 hr).2.2.2.2.2 i hi1 (by rw [e];rfl));simp only;rw [hc]at hp⊢;exact⟨last,rest',_,rl,nl,Wl,_,_,_,_,⟨nd,Bi name,label,word⟩::Aga,by rw [hp];simp,⟨fB ok ho htk hr hw hpre hlen hk hnd hi1 hi2 hi3 hkr hcut S.toXn,S.stop⟩⟩
end
structure P5(X:Nat->Prop)(L:Nat)(s:St)(items:List Kv):Prop where
 ok:BA L s
 nh:∀o d,¬EI s o d
 tree:(s.ws 9=0/\items=[]/\∀o,(∃d,AP s o d)<->X o)\/(∃blocks,s.ws 9≠0/\DF s 32 (s.ws 9) items blocks/\blocks.Nodup/\(∀o∈blocks,¬X o)/\∀o,(∃d,AP s o d)<->o∈blocks\/X o)
 even:∀kv∈items,Jl kv.1=true
abbrev Aup:=P5 (fun _=>False)
structure RN(X:Nat->Prop)(s s':St):Prop where
 sh:s'.sh=s.sh
 low:∀j,j<16->j≠9->s'.ws j=s.ws j
 keep:FV s s' X
section
variable{X:Nat->Prop}{L:Nat}{s:St}
theorem Pq{s s':St}(h1:s'.hd=s.hd)(h2:s'.sh=s.sh)(o d:Nat):EI s' o d<->EI s o d:=by
 unfold EI hdN;rw [h1,h2]
theorem Va:∀(l:List Nat){s:St}(_:BA L s),l.Nodup->(∀o∈l,∃d,AP s o d)->
 ∃s2,TE s (l.map Cc)=s2/\BA L s2/\s2.sh=s.sh/\s2.hd=s.hd/\(∀j,(j<16\/16+s.sh.BI<=j)->s2.ws j=s.ws j)/\∀o d,AP s2 o d<->AP s o d/\o∉l
 | [],s,ok,_,_=>⟨s,rfl,ok,rfl,rfl,fun _ _=>rfl,fun o d=>by simp⟩
 | o::l,s,ok,hn,ht=>by
   obtain⟨hn1,hn2⟩:=Ht.1 hn;obtain⟨d,hd⟩:=ht o (Bq ..);obtain⟨s1,e1,ok1,sh1,hd1,XQ,tk1⟩:=Ye ok hd;obtain⟨s2,e2,ok2,sD,hd2,ws2,jJ⟩:=Va l ok1 hn2 (fun p hp=>by
    obtain⟨d',hd'⟩:=ht p (BO _ hp);exact⟨d',(tk1 p d').2 ⟨hd',fun e=>hn1 (e▸hp)⟩⟩)
   refine⟨s2,?_,ok2,sD.trans sh1,hd2.trans hd1,fun j hj=>(ws2 j (by rw [sh1];exact hj)).trans (XQ j hj),fun p c=> ?_⟩
   ·rw [<-e2];unfold TE;rw [BU,Aho];show List.foldl _ (J4 s (Cc o)).1 _=_;rw [show(Cc o)=(o:Int)from rfl,e1]
   ·rw [jJ,tk1,CZ,not_or];exact⟨fun h=>⟨h.1.1,h.1.2,h.2⟩,fun h=>⟨⟨h.1,h.2.1⟩,h.2.2⟩⟩
theorem ZM:∀(l:List Nat){s:St}(_:BA L s),l.Nodup->(∀o∈l,∃d,AP s o d)->QQ s (l.map Cc) 0=(TE s (l.map Cc),0)
 | [],s,_,_,_=>rfl
 | o::l,s,ok,hn,ht=>by
   obtain⟨hn1,hn2⟩:=Ht.1 hn;obtain⟨d,hd⟩:=ht o (Bq ..);obtain⟨s1,e1,ok1,sh1,hd1,XQ,tk1⟩:=Ye ok hd;have ih:=ZM l ok1 hn2 (fun p hp=>by
    obtain⟨d',hd'⟩:=ht p (BO _ hp);exact⟨d',(tk1 p d').2 ⟨hd',fun e=>hn1 (e▸hp)⟩⟩)
   unfold TE at ih⊢;rw [BU,Aho,QQ,show(Cc o)=(o:Int)from rfl,e1];simpa using ih
theorem zD{s0:St}{j:Jb}{B:List Nat}(_:BA L s0)(g:Grown L s0 j B):∃s2,TE j.s j.made=s2/\BA L s2/\(∀o d,¬EI s2 o d)/\(∀o,(∃d,AP s2 o d)<->∃d,AP s0 o d)/\FV s0 s2 (fun _=>True)/\(∀i,i<16->s2.ws i=s0.ws i)/\s2.sh=s0.sh:=by
 obtain⟨s2,e2,ok2,sD,hd2,ws2,jJ⟩:=Va B g.ok g.vX (fun o ho=>(g.tk o).2 (.inr ho));refine⟨s2,by rw [g.made];exact e2,ok2,fun o d h=>g.nh o d ((Pq hd2 sD o d).1 h),fun o=> ?_,fun o c _ ht=> ?_,fun i hi=>(ws2 i (.inl hi)).trans (g.low i hi),sD.trans g.sh⟩
 ·constructor
  ·rintro⟨d,h⟩;obtain⟨h1,h2⟩:=(jJ o d).1 h;exact((g.tk o).1 ⟨d,h1⟩).resolve_right h2
  ·rintro⟨d,h⟩;obtain⟨h1,_⟩:=g.keep o d trivial h;exact⟨d,(jJ o d).2 ⟨h1,fun hB=>g.new o hB d h⟩⟩
 ·obtain⟨h1,h2⟩:=g.keep o c trivial ht;refine⟨(jJ o c).2 ⟨h1,fun hB=>g.new o hB c ht⟩,fun j hj=> ?_⟩;rw [ws2 j (.inr ?_),h2 j hj];have:=g.ok.DJ (h1.bounds g.ok).1 hj;exact this
theorem P5.same{s':St}{items:List Kv}(h:P5 X L s items)(ok':BA L s')(nh':∀o d,¬EI s' o d)(htk:∀o,(∃d,AP s' o d)<->∃d,AP s o d)(hk:FV s s' (fun _=>True))(h9:s'.ws 9=s.ws 9):P5 X L s' items:=by
 refine⟨ok',nh',?_,h.even⟩;rcases h.tree with⟨h1,h2,h3⟩| ⟨bl,h1,h2,h3,hX,h4⟩
 ·exact .inl ⟨by rw [h9,h1],h2,fun o=>(htk o).trans (h3 o)⟩
 ·exact .inr ⟨bl,by rw [h9];exact h1,by rw [h9];exact h2.keep h.ok ok' hk (fun _ _=>trivial),h3,hX,fun o=>(htk o).trans (h4 o)⟩
theorem pR{a b:List UInt8}(h:Op.bytesLess a b=true):a≠b:=fun e=>by rw [e,Fb]at h;cases h
theorem Ei{q:List UInt8}{l:List Kv}{kv:Kv}:kv∈SX q l<->∃k,(k,kv.2)∈l/\kv.1=q++k:=by
 unfold SX;rw [Bf];constructor
 ·rintro⟨kv',h,rfl⟩;exact⟨kv'.1,h,rfl⟩
 ·rintro⟨k,h,e⟩;exact⟨(k,kv.2),h,by cases kv;simp only at e;subst e;rfl⟩
def Agb(items items':List Kv)(k:List UInt8)(v:UInt64):Prop:=∀kv,kv∈items'<->kv=(k,v)\/(kv∈items/\kv.1≠k)
def zF(X:Nat->Prop)(L:Nat)(s:St)(items:List Kv)(k:List UInt8)(v:UInt64)(r:St×Int):Prop:=
 RN X s r.1/\((r.2=6/\P5 X L r.1 items/\∀kv∈items,kv.1≠k)\/(r.2=0/\∃items',P5 X L r.1 items'/\Agb items items' k v))
theorem Wq(k:List UInt8):Jl (DR k)=true:=sV k
theorem Acd{items:List Kv}(h:P5 X L s items)(h0:s.ws 9=0)(key:List UInt8)(hk:key.length<=16)(value:UInt64)(hv:value≠0):zF X L s items (DR key) value (KW s key value):=by
 have hi:items=[]/\∀o,(∃d,AP s o d)<->X o:=by
  rcases h.tree with⟨_,h2,h3⟩| ⟨_,h1,_⟩
  ·exact⟨h2,h3⟩
  ·exact absurd h0 h1
 have hlen:=LM key;have hp:FQ s key=some ([],DR key):=by
  unfold FQ;rw [h0,Ep,if_pos rfl]
 have hL:=Yg ((DR key).length+1) (Grown.start h.ok h.nh) 32 (DR key) value (by omega) (by omega) (Yx key) hv;unfold KW;rw [if_neg (by omega),if_neg hv,hp];simp only [CX,List.getLast?_nil];generalize OH ((DR key).length+1) ⟨s,[]⟩ (DR key) value=res at hL;obtain⟨j,name,e⟩:=res;rcases hL with⟨e1,B',g⟩| ⟨e1,C,bl,g,hkp,hn,T,hp⟩
 ·simp only at e1 g;subst e1;simp only [Hu];rw [if_pos (by decide)];obtain⟨s2,e2,ok2,nh2,jJ,kp2,lo2,sD⟩:=zD h.ok g;rw [e2];refine⟨⟨sD,fun j hj _=>lo2 j hj,fun o c _ ht=>kp2 o c trivial ht⟩,?_⟩;exact .inl ⟨rfl,h.same ok2 nh2 jJ kp2 (lo2 9 (by decide)),fun kv hkv=>by rw [hi.1]at hkv;cases hkv⟩
 ·simp only at e1 g hkp hn T;subst e1;rw [Fz]at g;simp only [Hu,QQ];rw [if_neg (by simp)];obtain⟨s',hs'⟩:∃s',s'=({j.s with ws:=Gg j.s.ws ((72:Int).toNat/8) name}:St):=⟨_,rfl⟩;rw [<-hs'];have hw:∀i,s'.ws i=if i=9 then name else j.s.ws i:=fun i=>by rw [hs'];rfl
  have ok':BA L s':=hs'▸g.ok.words (fun i hi=>by
   show Gg j.s.ws 9 name (16+i)=_;unfold Gg;rw [if_neg (by omega)])
  have htk:∀o d,AP s' o d<->AP j.s o d:=fun o d=>by rw [hs'];exact Iff.rfl
  have hk':FV j.s s' (fun _=>True):=fun o c _ ht=>⟨(htk o c).2 ht,fun i hi=>by
   rw [hw,if_neg];have:=g.ok.DJ (ht.bounds g.ok).1 hi;omega⟩
  have hCX:∀o∈bl,¬X o:=fun o ho hx=>by
   obtain⟨d,hd⟩:=(hi.2 o).2 hx;exact g.new o (hp.mem_iff.1 ho) d hd
  refine⟨⟨by rw [hs'];exact g.sh,fun j hj hj9=>by rw [hw,if_neg hj9,g.low j hj],fun o c _ ht=> ?_⟩,?_⟩
  ·obtain⟨u1,u2⟩:=g.keep o c trivial ht;obtain⟨u3,u4⟩:=hk' o c trivial u1;exact⟨u3,fun j hj=>(u4 j hj).trans (u2 j hj)⟩
  right;refine⟨rfl,[(DR key,value)],?_,fun kv=>by rw [hi.1];simp⟩;refine⟨ok',fun o d hh=>g.nh o d (by rw [hs']at hh;exact hh),.inr ⟨bl,by rw [hw,if_pos rfl];exact hn,by rw [hw,if_pos rfl];exact T.keep g.ok ok' hk' (fun _ _=>trivial),hp.nodup_iff.2 g.vX,hCX,fun o=> ?_⟩,fun kv hkv=>by rw [BC]at hkv;subst hkv;exact Wq key⟩;rw [show(∃d,AP s' o d)<->∃d,AP j.s o d from exists_congr (htk o),g.tk o,hp.mem_iff,hi.2 o];exact or_comm
end
theorem Ace(x:Nd)(v:UInt64):DX {x with val:=v}=(DX x).set 2 v:=by
 have hl:(DX {x with val:=v}).length=(DX x).length:=by rw [EL,EL]
 refine List.ext_getElem? fun i=> ?_
 rw [List.getElem?_set];by_cases h:2=i
 ·subst h;rw [Ad8,if_pos rfl,if_pos];rw [EL];split<;>omega
 ·rw [if_neg h,Ad7 x v i (fun e=>h e.symm)]
section
variable{X:Nat->Prop}{L:Nat}{s:St}
structure Om(L:Nat)(s:St)(items:List Kv)(blocks:List Nat)(key:List UInt8)(last:Pl)(rest' q:List UInt8)(rl:Nat)(nl:UInt64)(parts:List Part)(A B:List Kv)(b1 b2:List Nat)(o:Nat):Prop where
 spot:Xn L s 32 (s.ws 9) items blocks 72 (DR key) last rest' q rl nl parts A B b1 b2
 off:last.off=o
 tk:AP s o (Dn last.nd)
 right:Ci last.nd=true
 words:wordsAt s.ws (o/8) (8*Be (Dn last.nd))=DX last.nd
 n1:o∉b1
 n2:o∉b2
 n3:o∉AY parts
 d1:∀p∈b1,p∉AY parts
 d2:∀p∈b2,p∉AY parts
 d3:∀p∈b1,p∉b2
 m1:b1.Nodup
 m2:b2.Nodup
 m3:(AY parts).Nodup
 zB:blocks=b1++(o::AY parts)++b2
structure Wu(L:Nat)(s:St)(items:List Kv)(blocks:List Nat)(key:List UInt8)(last:Pl)(rest' q:List UInt8)(rl:Nat)(nl:UInt64)(parts:List Part)(A B:List Kv)(b1 b2:List Nat)(o:Nat):Prop extends Om L s items blocks key last rest' q rl nl parts A B b1 b2 o where
 stop:common last.nd.pre rest'<last.nd.pre.length\/common last.nd.pre rest'=rest'.length\/Ov last.nd (rest'.getD (common last.nd.pre rest') 0)=none
theorem zG(h:BA L s){items:List Kv}{blocks:List Nat}{key rest' q:List UInt8}{last:Pl}{rl:Nat}{nl:UInt64}{parts:List Part}{A B:List Kv}{b1 b2:List Nat}(hnd:blocks.Nodup)(S:Xn L s 32 (s.ws 9) items blocks 72 (DR key) last rest' q rl nl parts A B b1 b2):
 ∃o,Om L s items blocks key last rest' q rl nl parts A B b1 b2 o:=by
 obtain⟨o,ho,ht,hr,hw⟩:=H9 h S.rd;have hoff:last.off=o:=S.off.symm.trans ho;have hb:=S.zB;rw [hoff,Cm]at hb;have hnd':=hnd;rw [hb]at hnd';obtain⟨x1,x2,x3⟩:=Cj.1 hnd';obtain⟨y1,y2,y3⟩:=Cj.1 x1;obtain⟨z1,z2⟩:=Ht.1 y2;exact⟨o,⟨S,hoff,ht,hr,hw,fun h=>y3 _ h _ (Bq ..) rfl,fun h=>x3 _ (by simp) _ h rfl,z1,fun p hp hk=>y3 _ hp _ (BO _ hk) rfl,fun p hp hk=>x3 _ (by simp [hk]) _ hp rfl,fun p hp hk=>x3 _ (by simp [hp]) _ hk rfl,y1,x2,z2,hb⟩⟩
theorem around(h:BA L s){items:List Kv}{blocks:List Nat}(hn0:s.ws 9≠0)(T:DF s 32 (s.ws 9) items blocks)(hnd:blocks.Nodup)(key:List UInt8)(hk:key.length<=16):
 ∃way last rest' q rl nl parts A B b1 b2 o,FQ s key=some (way++[last],rest')/\Wu L s items blocks key last rest' q rl nl parts A B b1 b2 o:=by
 have hlen:=LM key;obtain⟨last,rest',q,rl,nl,parts,A,B,b1,b2,Aga,hp,S⟩:=fC h (2*key.length+1) 32 (s.ws 9) items blocks (DR key) 0 72 [] T hnd (by omega) (by omega) hn0;obtain⟨o,a⟩:=zG h hnd S.toXn;exact⟨Aga,last,rest',q,rl,nl,parts,A,B,b1,b2,o,by unfold FQ;rw [hp];simp,⟨a,S.stop⟩⟩
variable{items:List Kv}{blocks:List Nat}{key:List UInt8}{last:Pl}{rest' q:List UInt8}{rl:Nat}{nl:UInt64}{parts:List Part}{A B:List Kv}{b1 b2:List Nat}{o:Nat}
theorem Om.word(ok:BA L s)(a:Om L s items blocks key last rest' q rl nl parts A B b1 b2 o):∃jw:Nat,last.word=((8*jw:Nat):Int)/\s.ws jw=nl/\(jw<16\/16+s.sh.BI<=jw)/\((q=[]/\jw=9)\/(q≠[]/\∃p c,p∈b1/\AP s p c/\H8 p c jw)):=by
 rcases a.spot.wd with⟨h1,h2,h3⟩| ⟨h1,p,c,j,h2,h3,h4,h5,h6⟩
 ·exact⟨9,by rw [h2];rfl,h3.symm,.inl (by decide),.inl ⟨h1,rfl⟩⟩
 ·exact⟨j,h5,h6,.inr (ok.DJ (h3.bounds ok).1 h4),.inr ⟨h1,p,c,h2,h3,h4⟩⟩
theorem Om.other(a:Om L s items blocks key last rest' q rl nl parts A B b1 b2 o)(kv:Kv)(h:kv∈A\/kv∈B):kv.1≠DR key:=by
 rw [a.spot.cut];rcases h with h| h
 ·exact pR (a.spot.lo kv h rest')
 ·exact fun e=>pR (a.spot.hi kv h rest') e.symm
theorem pU{items:List Kv}{blocks:List Nat}(h:P5 X L s items)(hn0:s.ws 9≠0)(htk:∀o,(∃d,AP s o d)<->o∈blocks\/X o)(hX:∀o∈blocks,¬X o)(hnd:blocks.Nodup)(a:Om L s items blocks key last rest' q rl nl parts A B b1 b2 o)(hp:last.nd.pre=rest')(value:UInt64):
 RN X s (PI s last value)/\P5 X L (PI s last value) (A++SX q (BX {last.nd with val:=value}++Bl last.nd.pre last.nd.labels parts)++B):=by
 have ok:=h.ok;obtain⟨jw,hj1,hj2,hj3,hj4⟩:=a.word ok;have lY:=a.tk.bounds ok;have S:=a.spot;obtain⟨s',hs'⟩:∃s',s'=PI s last value:=⟨_,rfl⟩;have hw:∀i,s'.ws i=if i=o/8+2 then value else s.ws i:=fun i=>by
  rw [hs'];show Gg s.ws (last.off.toNat/8+2) value i=_;rw [a.off,Cm];rfl
 have hin:H8 o (Dn last.nd) (o/8+2):=⟨by omega,by
  have:=(Fe (Pn last.nd)).2.1;omega⟩
 have hout:=ok.DJ lY.1 hin;have ok':BA L s':=by
  rw [hs'];exact ok.words (fun i hi=>by
   show Gg s.ws (last.off.toNat/8+2) value (16+i)=_;rw [a.off,Cm];unfold Gg;rw [if_neg (by omega)])
 have Am1:∀p d,AP s' p d<->AP s p d:=fun p d=>by rw [hs'];exact Iff.rfl
 have hkeep:FV s s' (fun p=>p≠o):=fun p c hp ht=>⟨(Am1 p c).2 ht,fun j hj=>by
  rw [hw,if_neg (RI ok ht a.tk hp hj hin)]⟩
 have hrd:EZ s' nl=some {last.nd with val:=value}:=by
  refine Yf ok' (S.off.trans a.off) ((Am1 _ _).2 a.tk) (by rw [tH];exact a.right) ?_;rw [show Dn {last.nd with val:=value}=Dn last.nd from rfl,Ace];refine EH (by simp [wordsAt,JX]) fun t g1 g2=> ?_
  have htl:t<8*Be (Dn last.nd):=by simpa [wordsAt]using g1
  have hold:s.ws (o/8+t)=(DX last.nd)[t]'(by rw [JX];exact htl):=by
   have:(wordsAt s.ws (o/8) (8*Be (Dn last.nd)))[t]? =(DX last.nd)[t]? :=by rw [a.words]
   unfold wordsAt at this;rw [BZ,TA htl,Af (by rw [JX];exact htl)]at this;simpa using this
  rw [Gn,hw,MO];by_cases e:t=2
  ·rw [if_pos (by omega),if_pos e.symm]
  ·rw [if_neg (by omega),if_neg (fun h=>e h.symm)];exact hold
 have T:=DF.mk (s:=s') rl nl {last.nd with val:=value} parts hrd S.pre S.kid S.len (fun i h1 h2=>(S.sub i h1 h2).keep ok ok' hkeep (fun p hp e=>a.n3 (e▸Tv h2 hp)));rw [S.off,a.off,Cm]at T;have T2:=S.swap s' nl _ _ ok' (fun e=>by
  rcases hj4 with⟨h1,h2⟩| ⟨h1,h2⟩
  ·rw [h2]at hj2;exact hn0 (hj2.trans e)
  ·have:=S.rd;rw [e]at this;obtain⟨o',ho',ht',_⟩:=H9 ok this;have:=(ht'.bounds ok).1;have hz:Bi 0=0:=by decide
   rw [hz]at ho';have:=ok.sh.MK;omega) T (fun p c hp ht=>by
  have hpo:p≠o:=fun e=>by subst e;exact hp.elim a.n1 a.n2
  obtain⟨u1,u2⟩:=hkeep p c hpo ht;refine⟨u1,fun j hj=> ?_⟩;rw [u2 j hj];split
  ·rename_i e;rw [hj1]at e;rw [<-hj2];congr 1;omega
  ·rfl)
 have h9:s'.ws 9=s.ws 9:=by rw [hw,if_neg (by omega)]
 have hname:(if q=[]then nl else s.ws 9)=s.ws 9:=by
  split
  ·rename_i e;rcases hj4 with⟨_,h2⟩| ⟨h1,_⟩
   ·rw [<-hj2,h2]
   ·exact absurd e h1
  ·rfl
 rw [hname]at T2;have hkey:DR key=q++last.nd.pre:=by rw [hp];exact S.cut
 refine⟨⟨by rfl,fun j hj _=>by rw [<-hs',hw,if_neg (by omega)],fun p c hp ht=>by rw [<-hs'];exact hkeep p c (fun e=>hX o (by rw [a.zB];simp) (e▸hp)) ht⟩,?_⟩;refine⟨by rw [<-hs'];exact ok',fun p d hh=>h.nh p d ((Pq (by rfl) (by rfl) p d).1 hh),.inr ⟨blocks,by rw [<-hs',h9];exact hn0,?_,hnd,hX,fun p=> ?_⟩,?_⟩
 ·rw [<-hs',h9,a.zB];exact T2
 ·rw [<-hs',show(∃d,AP s' p d)<->∃d,AP s p d from exists_congr (Am1 p)];exact htk p
 ·intro kv hkv;rw [AX]at hkv;rcases AL.1 hkv with h1| h1
  ·exact h.even kv (by rw [S.its];simp [h1])
  ·rcases AL.1 h1 with h1| h1
   ·obtain⟨k,h2,h3⟩:=Ei.1 h1;rcases AL.1 h2 with h4| h4
    ·obtain⟨e,_⟩:=Ff h4;rw [h3];have e1:k=last.nd.pre:=congrArg Prod.fst e;rw [e1,<-hkey];exact Wq key
    ·refine h.even kv ?_;rw [S.its,AX];exact Bj _ (BD _ (Ei.2 ⟨k,Bj _ h4,h3⟩))
   ·exact h.even kv (by rw [S.its];simp [h1])
theorem Acf{items:List Kv}{blocks:List Nat}(h:P5 X L s items)(hn0:s.ws 9≠0)(htk:∀o,(∃d,AP s o d)<->o∈blocks\/X o)(hX:∀o∈blocks,¬X o)(hnd:blocks.Nodup)(a:Wu L s items blocks key last rest' q rl nl parts A B b1 b2 o)(hp:last.nd.pre=rest')(value:UInt64)(hv:value≠0):
 zF X L s items (DR key) value (PI s last value,0):=by
 have S:=a.spot;have hkey:DR key=q++last.nd.pre:=by rw [hp];exact S.cut
 obtain⟨hK,hV⟩:=pU h hn0 htk hX hnd a.toOm hp value;refine⟨hK,?_⟩;right;refine⟨rfl,_,hV,?_⟩;intro kv;have Na:∀k,(k,kv.2)∈Bl last.nd.pre last.nd.labels parts->q++k≠DR key:=fun k hk e=>by
  obtain⟨i,h1,h2,kv',_,e2⟩:=EG hk;rw [hkey]at e;have:=Em e;have e3:k=last.nd.pre++last.nd.labels[i]::kv'.1:=congrArg Prod.fst e2;rw [e3]at this;have:=congrArg List.length this;simp at this
 constructor
 ·intro hkv;rw [AX]at hkv;rcases AL.1 hkv with h1| h1
  ·exact .inr ⟨by rw [S.its];simp [h1],a.other kv (.inl h1)⟩
  ·rcases AL.1 h1 with h1| h1
   ·obtain⟨k,h2,h3⟩:=Ei.1 h1;rcases AL.1 h2 with h4| h4
    ·obtain⟨e,_⟩:=Ff h4;left;have e1:k=last.nd.pre:=congrArg Prod.fst e;have e2:kv.2=value:=congrArg Prod.snd e;refine Prod.ext ?_ e2;rw [h3,e1,hkey]
    ·refine .inr ⟨?_,by rw [h3];exact Na k h4⟩;rw [S.its,AX];exact Bj _ (BD _ (Ei.2 ⟨k,Bj _ h4,h3⟩))
   ·exact .inr ⟨by rw [S.its];simp [h1],a.other kv (.inr h1)⟩
 ·rintro(rfl| ⟨h1,h2⟩)
  ·rw [AX];refine Bj _ (BD _ (Ei.2 ⟨last.nd.pre,BD _ ?_,hkey⟩));unfold BX;rw [if_pos hv];exact BC.2 rfl
  ·rw [S.its,AX]at h1;rw [AX];rcases AL.1 h1 with h3| h3
   ·exact BD _ h3
   ·rcases AL.1 h3 with h3| h3
    ·obtain⟨k,h4,h5⟩:=Ei.1 h3;rcases AL.1 h4 with h6| h6
     ·obtain⟨e,_⟩:=Ff h6;have e1:k=last.nd.pre:=congrArg Prod.fst e;exact absurd (by rw [h5,e1,hkey]) h2
     ·exact Bj _ (BD _ (Ei.2 ⟨k,Bj _ h6,h5⟩))
    ·exact Bj _ (Bj _ h3)
end
section
variable{X:Nat->Prop}{L:Nat}{s:St}{items:List Kv}{blocks:List Nat}{key:List UInt8}{last:Pl}{rest' q:List UInt8}{rl:Nat}{nl:UInt64}{parts:List Part}{A B:List Kv}{b1 b2:List Nat}{o:Nat}
theorem fE (h : P5 X L s items) (hn0 : s.ws 9 ≠ 0) (htk : ∀ o, (∃ d, AP s o d) <-> o ∈ blocks \/ X o) (hX : ∀ o ∈ blocks, ¬ X o) (a : Om L s items blocks key last rest' q rl nl parts A B b1 b2 o) {j : Jb} {C : List Nat} (g : Grown L s j C) {name : UInt64} (hn : name ≠ 0) {Wj : List Kv} {Ui : List Nat}
    (T : DF j.s rl name Wj Ui) {K D dl : List Nat} (hperm : (AY parts).Perm (K ++ D)) (hpm : Ui.Perm (C ++ K)) (hdl : dl.Perm (D ++ [o])) (hev : ∀ kv ∈ Wj, Jl (q ++ kv.1) = true) :
    ∃ s2, Hu j 0 last.word name (dl.map Cc) = (s2, 0) /\ RN X s s2 /\ P5 X L s2 (A ++ SX q Wj ++ B) := by
  have ok := h.ok
  obtain ⟨jw, hj1, hj2, hj3, hj4⟩ := a.word ok
  have S := a.spot
  obtain ⟨s1, hs1⟩ : ∃ s1, s1 = ({ j.s with ws := Gg j.s.ws (last.word.toNat / 8) name } : St) := ⟨_, rfl⟩
  have oO : last.word.toNat / 8 = jw := by rw [hj1, Cm]; omega
  have hw1 : ∀ i, s1.ws i = if i = jw then name else j.s.ws i := fun i => by rw [hs1, <- oO]; rfl
  have Am2 := g.sh
  have ok1 : BA L s1 := by
    rw [hs1]
    refine g.ok.words (fun i hi => ?_)
    show Gg j.s.ws (last.word.toNat / 8) name (16 + i) = _
    rw [oO]
    unfold Gg
    rw [if_neg]
    rw [Am2] at hi
    omega
  have UZ : ∀ p d, AP s1 p d <-> AP j.s p d := fun p d => by rw [hs1]; exact Iff.rfl
  have hCs : ∀ p ∈ C, ∀ d, ¬ AP s p d := g.new
  have hbt : ∀ p ∈ blocks, ∃ d, AP s p d := fun p hp => (htk p).2 (.inl hp)
  have hoC : o ∉ C := fun hc => hCs o hc _ a.tk
  have hKD := hperm.nodup_iff.1 a.m3
  obtain ⟨mK, mD, mKD⟩ := Cj.1 hKD
  have hDk : ∀ p ∈ D, p ∈ AY parts := fun p hp => hperm.mem_iff.2 (Bj _ hp)
  have hKk : ∀ p ∈ K, p ∈ AY parts := fun p hp => hperm.mem_iff.2 (BD _ hp)
  have hkb : ∀ p ∈ AY parts, p ∈ blocks := fun p hp => by rw [a.zB]; simp [hp]
  have hmd : ∀ p, p ∈ dl <-> p ∈ D \/ p = o := fun p => by rw [hdl.mem_iff]; simp
  have hdn : dl.Nodup := hdl.nodup_iff.2 (Cj.2 ⟨mD, by simp, fun x hx y hy e => by rw [BC] at hy; exact a.n3 (hy ▸ e ▸ hDk x hx)⟩)
  have hdt : ∀ p ∈ dl, ∃ d, AP s1 p d := fun p hp => by
    have hs : ∃ d, AP s p d := ((hmd p).1 hp).elim (fun hd => hbt p (hkb p (hDk p hd))) (fun e => ⟨_, e ▸ a.tk⟩)
    obtain ⟨d, hd⟩ := hs
    exact ⟨d, (UZ p d).2 (g.keep p d trivial hd).1⟩
  obtain ⟨s2, ed, ok2, sD, hd2, ws2, jJ⟩ := Va dl ok1 hdn hdt
  have ee := ZM dl ok1 hdn hdt
  rw [ed] at ee
  have pG : s1.sh = s.sh := by rw [hs1]; exact Am2
  refine ⟨s2, by unfold Hu; rw [if_neg (by simp), <- hs1]; exact ee, ?_⟩
  have hw2 : ∀ i, (i < 16 \/ 16 + s.sh.BI <= i) -> s2.ws i = if i = jw then name else j.s.ws i := fun i hi => by
    rw [ws2 i (by rw [pG]; exact hi), hw1]
  have hbd : ∀ p ∈ Ui, p ∉ dl := fun p hb hd => by
    rcases (hmd p).1 hd with h1 | h1
    · rcases AL.1 (hpm.mem_iff.1 hb) with h2 | h2
      · obtain ⟨d, hd⟩ := hbt p (hkb p (hDk p h1))
        exact hCs p h2 d hd
      · exact mKD p h2 p h1 rfl
    · subst h1
      rcases AL.1 (hpm.mem_iff.1 hb) with h2 | h2
      · exact hoC h2
      · exact a.n3 (hKk _ h2)
  have hbx : ∀ p, p ∈ b1 \/ p ∈ b2 -> p ∉ dl := fun p hp hd => by
    rcases (hmd p).1 hd with h1 | h1
    · exact hp.elim (fun h => a.d1 p h (hDk p h1)) (fun h => a.d2 p h (hDk p h1))
    · subst h1; exact hp.elim a.n1 a.n2
  -- the new tree stands behind the word and the Av1
  have Am3 : ∀ p c, p ∈ Ui -> AP j.s p c -> AP s2 p c /\ ∀ i, H8 p c i -> s2.ws i = j.s.ws i := fun p c hp ht => by
    refine ⟨(jJ p c).2 ⟨(UZ p c).2 ht, hbd p hp⟩, fun i hi => ?_⟩
    have Acg := g.ok.DJ (ht.bounds g.ok).1 hi
    rw [Am2] at Acg
    rw [hw2 i (.inr Acg), if_neg]
    intro e
    subst e
    rcases hj4 with ⟨_, h2⟩ | ⟨_, pp, cc, h2, h3, h4⟩
    · omega
    · obtain ⟨h3', _⟩ := g.keep pp cc trivial h3
      refine RI g.ok ht h3' (fun e => ?_) hi h4 rfl
      subst e
      rcases AL.1 (hpm.mem_iff.1 hp) with h5 | h5
      · exact hCs p h5 cc h3
      · exact a.d1 p h2 (hKk p h5)
  have T2 : DF s2 rl name Wj Ui := T.keep g.ok ok2 (B := fun p => p ∈ Ui) Am3 (fun _ h => h)
  have T3 := S.swap s2 name Wj Ui ok2 hn T2 (fun p c hp ht => by
    obtain ⟨u1, u2⟩ := g.keep p c trivial ht
    refine ⟨(jJ p c).2 ⟨(UZ p c).2 u1, hbx p hp⟩, fun i hi => ?_⟩
    have Acg := ok.DJ (ht.bounds ok).1 hi
    rw [hw2 i (.inr Acg), hj1]
    by_cases e : i = jw
    · rw [if_pos e, if_pos (by omega)]
    · rw [if_neg e, if_neg (by omega), u2 i hi])
  have h9 : s2.ws 9 = if q = [] then name else s.ws 9 := by
    rw [hw2 9 (.inl (by decide))]
    rcases hj4 with ⟨h1, h2⟩ | ⟨h1, pp, cc, h2, h3, h4⟩
    · rw [if_pos h2.symm, if_pos h1]
    · have := ok.DJ (h3.bounds ok).1 h4
      rw [if_neg (by omega), if_neg h1, g.low 9 (by decide)]
  rw [<- h9] at T3
  have h90 : s2.ws 9 ≠ 0 := by
    rw [h9]
    split
    · exact hn
    · exact hn0
  have hdb : ∀ p ∈ dl, p ∈ blocks := fun p hp => ((hmd p).1 hp).elim (fun h => hkb p (hDk p h)) (fun e => by rw [e, a.zB]; simp)
  have hXk : RN X s s2 := ⟨sD.trans pG, fun i hi hi9 => by
      rw [hw2 i (.inl hi), if_neg, g.low i hi]
      rcases hj4 with ⟨_, h2⟩ | ⟨_, pp, cc, h2, h3, h4⟩
      · omega
      · have := ok.DJ (h3.bounds ok).1 h4
        omega, fun p c hp ht => by
      obtain ⟨u1, u2⟩ := g.keep p c trivial ht
      refine ⟨(jJ p c).2 ⟨(UZ p c).2 u1, fun hd => hX p (hdb p hd) hp⟩, fun i hi => ?_⟩
      have Acg := ok.DJ (ht.bounds ok).1 hi
      rw [hw2 i (.inr Acg), if_neg, u2 i hi]
      intro e
      subst e
      rcases hj4 with ⟨_, h2⟩ | ⟨_, pp, cc, h2, h3, h4⟩
      · omega
      · refine RI ok ht h3 (fun e => ?_) hi h4 rfl
        subst e
        exact hX p (by rw [a.zB]; simp [h2]) hp⟩
  refine ⟨hXk, ok2, fun p d hh => g.nh p d ((Pq (by rw [hd2, hs1]) (by rw [sD, hs1]) p d).1 hh), .inr ⟨b1 ++ Ui ++ b2, h90, T3, ?_, fun p hp hpX => ?_, fun p => ?_⟩, ?_⟩
  · have hp2 : (b1 ++ Ui ++ b2).Perm (b1 ++ (C ++ K) ++ b2) := List.Perm.append_right _ (List.Perm.append_left _ hpm)
    rw [hp2.nodup_iff]
    have hC1 : ∀ p ∈ C, p ∉ blocks := fun p hp hb => by
      obtain ⟨d, hd⟩ := hbt p hb
      exact hCs p hp d hd
    rw [a.zB] at hC1
    refine Cj.2 ⟨Cj.2 ⟨a.m1, Cj.2 ⟨g.vX, mK, fun x hx y hy e => ?_⟩, fun x hx y hy e => ?_⟩, a.m2, fun x hx y hy e => ?_⟩
    · subst e
      exact hC1 x hx (by simp [hKk x hy])
    · subst e
      rcases AL.1 hy with h1 | h1
      · exact hC1 x h1 (by simp [hx])
      · exact a.d1 x hx (hKk x h1)
    · subst e
      rcases AL.1 hx with h1 | h1
      · exact a.d3 x h1 hy
      · rcases AL.1 h1 with h1 | h1
        · exact hC1 x h1 (by simp [hy])
        · exact a.d2 x hy (hKk x h1)
  · rcases AL.1 hp with h1 | h1
    · rcases AL.1 h1 with h1 | h1
      · exact hX p (by rw [a.zB]; simp [h1]) hpX
      · rcases AL.1 (hpm.mem_iff.1 h1) with h2 | h2
        · obtain ⟨d, hd⟩ := (htk p).2 (.inr hpX)
          exact hCs p h2 d hd
        · exact hX p (hkb p (hKk p h2)) hpX
    · exact hX p (by rw [a.zB]; simp [h1]) hpX
  · have h1 : (∃ d, AP s2 p d) <-> (∃ d, AP j.s p d) /\ p ∉ dl := by
      constructor
      · rintro ⟨d, hd⟩
        obtain ⟨h1, h2⟩ := (jJ p d).1 hd
        exact ⟨⟨d, (UZ p d).1 h1⟩, h2⟩
      · rintro ⟨⟨d, hd⟩, h2⟩
        exact ⟨d, (jJ p d).2 ⟨(UZ p d).2 hd, h2⟩⟩
    rw [h1, g.tk p, htk p, hmd p, a.zB]
    simp only [AL, CZ, hpm.mem_iff, hperm.mem_iff]
    constructor
    · rintro ⟨h1 | h1, h2⟩
      · rcases h1 with ((h1 | h1 | h1 | h1) | h1) | h1
        · exact .inl (.inl (.inl h1))
        · exact absurd (.inr h1) h2
        · exact .inl (.inl (.inr (.inr h1)))
        · exact absurd (.inl h1) h2
        · exact .inl (.inr h1)
        · exact .inr h1
      · exact .inl (.inl (.inr (.inl h1)))
    · have hno : ∀ p, p ∈ b1 \/ p ∈ b2 \/ p ∈ C \/ p ∈ K -> ¬ (p ∈ D \/ p = o) := fun p hp hd => by
        have hd' := (hmd p).2 hd
        rcases hp with h | h | h | h
        · exact hbx p (.inl h) hd'
        · exact hbx p (.inr h) hd'
        · exact hbd p (hpm.mem_iff.2 (BD _ h)) hd'
        · exact hbd p (hpm.mem_iff.2 (Bj _ h)) hd'
      rintro (((h1 | h1 | h1) | h1) | h1)
      · exact ⟨.inl (.inl (.inl (.inl h1))), hno p (.inl h1)⟩
      · exact ⟨.inr h1, hno p (.inr (.inr (.inl h1)))⟩
      · exact ⟨.inl (.inl (.inl (.inr (.inr (.inl h1))))), hno p (.inr (.inr (.inr h1)))⟩
      · exact ⟨.inl (.inl (.inr h1)), hno p (.inr (.inl h1))⟩
      · exact ⟨.inl (.inr h1), fun hd => hX p (hdb p ((hmd p).2 hd)) h1⟩
  · intro kv hkv
    rw [AX] at hkv
    rcases AL.1 hkv with h1 | h1
    · exact h.even kv (by rw [S.its]; simp [h1])
    · rcases AL.1 h1 with h1 | h1
      · obtain ⟨k, h2, h3⟩ := Ei.1 h1
        rw [h3]
        exact hev _ h2
      · exact h.even kv (by rw [S.its]; simp [h1])
theorem Wu.below(a:Wu L s items blocks key last rest' q rl nl parts A B b1 b2 o)(hp:last.nd.pre≠rest'):∀kv,kv∈BX last.nd++Bl last.nd.pre last.nd.labels parts->kv.1≠rest':=fun kv hkv e=>by
 rcases AL.1 hkv with h1| h1
 ·obtain⟨rfl,_⟩:=Ff h1;exact hp e
 ·obtain⟨i,i1,i2,kv',_,rfl⟩:=EG h1;simp only at e;have hc:common last.nd.pre rest'=last.nd.pre.length:=by rw [<-e,Ti]
  have:OG last.nd.labels (rest'.getD (common last.nd.pre rest') 0)=false:=by
   rcases a.stop with h1| h1| h1
   ·omega
   ·exact absurd (Rk _ _ hc h1) hp
   ·exact fA a.right h1
  rw [hc,<-e,Bh,List.getElem?_append_right (Ad _),Nat.sub_self]at this;exact Ru _ _ this i i1 rfl
theorem Ajn(h:P5 X L s items)(hn0:s.ws 9≠0)(htk:∀o,(∃d,AP s o d)<->o∈blocks\/X o)(hX:∀o∈blocks,¬X o)(_:blocks.Nodup)(Aq8:key.length<=16)(a:Wu L s items blocks key last rest' q rl nl parts A B b1 b2 o)(hp:last.nd.pre≠rest')(value:UInt64)(hv:value≠0):
 zF X L s items (DR key) value (match WR ⟨s,[]⟩ last.nd rest' value with| (j,name,e)=>Hu j e last.word name [last.off]):=by
 have ok:=h.ok;have S:=a.spot;have hlen:=LM key;have Av2:q.length+rest'.length=(DR key).length:=by rw [S.cut,AQ]
 have TD:rest'.all DL=true:=by
  have:=Yx key;rw [S.cut,List.all_append,Bool.and_eq_true]at this;exact this.2
 have hno:common last.nd.pre rest'=last.nd.pre.length->OG last.nd.labels (rest'.getD (common last.nd.pre rest') 0)=false:=fun hc=>by
  rcases a.stop with h1| h1| h1
  ·omega
  ·exfalso;refine hp ?_;exact Rk _ _ hc h1
  ·exact fA a.right h1
 have hG:=Ajk ok h.nh a.right S.len S.pre S.kid S.sub (by have:=S.lens;omega) TD hv hp hno;generalize WR ⟨s,[]⟩ last.nd rest' value=res at hG;obtain⟨j,name,e⟩:=res;simp only;rcases hG with⟨e1,B',g⟩| ⟨e1,C,Wj,Ui,g,hn,T,hpm,hmem⟩
 ·simp only at e1 g;subst e1;simp only [Hu];rw [if_pos (by decide)];obtain⟨s2,e2,ok2,nh2,jJ,kp2,lo2,sD⟩:=zD ok g;rw [e2];refine⟨⟨sD,fun j hj _=>lo2 j hj,fun o c _ ht=>kp2 o c trivial ht⟩,?_⟩;refine .inl ⟨rfl,h.same ok2 nh2 jJ kp2 (lo2 9 (by decide)),fun kv hkv e=> ?_⟩;rw [S.its,AX]at hkv;rcases AL.1 hkv with g1| g1
  ·exact a.other kv (.inl g1) e
  ·rcases AL.1 g1 with g1| g1
   ·obtain⟨k,g2,g3⟩:=Ei.1 g1;rw [g3,S.cut]at e;exact a.below hp _ g2 (Em e)
   ·exact a.other kv (.inr g1) e
 ·simp only at e1 g hn T;subst e1;have hkey:DR key=q++rest':=S.cut;have hin:∀k v,(k,v)∈BX last.nd++Bl last.nd.pre last.nd.labels parts->(q++k,v)∈items:=fun k v h4=>by
   rw [S.its,AX];exact Bj _ (BD _ (Ei.2 ⟨k,h4,rfl⟩))
  obtain⟨s2,e2,kx2,ix2⟩:=fE h hn0 htk hX a.toOm g hn T (K:=AY parts) (D:=[]) (dl:=[o]) (by simp) hpm (by simp) (fun kv hkv=>by
   obtain⟨k,v⟩:=kv;rcases(hmem _).1 hkv with h4| h4
   ·exact h.even _ (hin k v h4)
   ·have e1:k=rest':=congrArg Prod.fst h4;show Jl (q++k)=true;rw [e1,<-hkey];exact Wq key)
  rw [a.off,show [(o:Int)]=[o].map Cc from rfl,e2];refine⟨kx2,?_⟩;right;refine⟨rfl,_,ix2,?_⟩;intro kv;constructor
  ·intro hkv;rw [AX]at hkv;rcases AL.1 hkv with h1| h1
   ·exact .inr ⟨by rw [S.its];simp [h1],a.other kv (.inl h1)⟩
   ·rcases AL.1 h1 with h1| h1
    ·obtain⟨k,h2,h3⟩:=Ei.1 h1;rcases(hmem _).1 h2 with h4| h4
     ·refine .inr ⟨?_,?_⟩
      ·have:=hin k kv.2 h4
       rwa [<-h3]at this
      ·rw [h3,hkey];intro e;exact a.below hp _ h4 (Em e)
     ·left;have e1:k=rest':=congrArg Prod.fst h4;have e2:kv.2=value:=congrArg Prod.snd h4;exact Prod.ext (by rw [h3,e1,hkey]) e2
    ·exact .inr ⟨by rw [S.its];simp [h1],a.other kv (.inr h1)⟩
  ·rintro(rfl| ⟨h1,h2⟩)
   ·rw [AX];exact Bj _ (BD _ (Ei.2 ⟨rest',(hmem _).2 (.inr rfl),hkey⟩))
   ·rw [S.its,AX]at h1;rw [AX];rcases AL.1 h1 with h3| h3
    ·exact BD _ h3
    ·rcases AL.1 h3 with h3| h3
     ·obtain⟨k,h4,h5⟩:=Ei.1 h3;exact Bj _ (BD _ (Ei.2 ⟨k,(hmem _).2 (.inl h4),h5⟩))
     ·exact Bj _ (Bj _ h3)
theorem Agc(h:P5 X L s items)(key:List UInt8)(hk:key.length<=16)(value:UInt64)(hv:value≠0):zF X L s items (DR key) value (KW s key value):=by
 by_cases h0:s.ws 9=0
 ·exact Acd h h0 key hk value hv
 ·rcases h.tree with⟨h1,_⟩| ⟨blocks,h1,T,hnd,hX,htk⟩
  ·exact absurd h1 h0
  ·obtain⟨way,last,rest',q,rl,nl,parts,A,B,b1,b2,o,hp,a⟩:=around h.ok h1 T hnd key hk;unfold KW;rw [if_neg (by omega),if_neg hv,hp];have hgl:(way++[last]).getLast? =some last:=by simp
   simp only [CX,hgl];by_cases hpr:last.nd.pre=rest'
   ·rw [if_pos hpr];exact Acf h h1 htk hX hnd a hpr value hv
   ·rw [if_neg hpr];exact Ajn h h1 htk hX hnd hk a hpr value hv
theorem RP(h:P5 X L s items):∃met:List Nat,DU s=some (items.map (fun kv=>(pairs kv.1,kv.2)),met.map Cc)/\met.Nodup/\(∀o∈met,¬X o)/\∀o,(∃d,AP s o d)<->o∈met\/X o:=by
 rcases h.tree with⟨h1,h2,h3⟩| ⟨blocks,h1,T,hnd,hX,htk⟩
 ·refine⟨[],?_,List.nodup_nil,(fun _ h=>nomatch h),fun o=>by simp [h3 o]⟩;unfold DU;rw [if_pos h1,h2];rfl
 ·refine⟨blocks,?_,hnd,hX,htk⟩;unfold DU;rw [if_neg h1];have:=T.Amx h.ok 34 [] [] [] (by decide) (by decide) hnd (fun _ _ h=>by cases h) (fun kv hkv=>h.even kv hkv);simpa using this
end
section
variable{L:Nat}{s:St}
theorem NL:∀(f:Nat)(name:UInt64)(rest:List UInt8)(label:UInt8)(word:Int)(way:List Pl),Ep s f name rest label word way=(Ep s f name rest label word []).map fun p=>(way++p.1,p.2)
 | 0,_,_,_,_,way=>by simp [Ep]
 | f+1,name,rest,label,word,way=>by
   rw [Ep,Ep];split
   ·simp
   ·split
    ·rfl
    ·rename_i x _;split
     ·simp
     ·split
      ·simp
      ·rename_i kid number _;rw [NL f kid _ _ _ (way++_),NL f kid _ _ _ ([]++_)];cases Ep s f kid (rest.drop (common x.pre rest+1)) (rest.getD (common x.pre rest) 0) (Bi name+8*number) []<;>simp
theorem fF{f:Nat}{name:UInt64}{rest:List UInt8}{label:UInt8}{word:Int}{W:List Pl}{rf:List UInt8}(h:Ep s (f+1) name rest label word []=some (W,rf))(hn:name≠0):∃x W',W=x::W'/\x.label=label/\x.word=word:=by
 rw [Ep,if_neg hn]at h;split at h
 ·cases h
 ·rename_i x _;split at h
  ·injection h with h;injection h with h1 h2
   exact⟨_,_,h1.symm,rfl,rfl⟩
  ·split at h
   ·injection h with h;injection h with h1 h2
    exact⟨_,_,h1.symm,rfl,rfl⟩
   ·rw [NL]at h;obtain⟨p,_,h2⟩:=P7.1 h;injection h2 with h3 h4
    exact⟨_,_,h3.symm,rfl,rfl⟩
theorem zH(ok:BA L s):∀(m f r:Nat)(name:UInt64)(items:List Kv)(blocks:List Nat)(rest:List UInt8)(label:UInt8)(word:Int),DF s r name items blocks->blocks.Nodup->rest.length<f->rest.length<=r->name≠0->
 ∀(W:List Pl)(rf:List UInt8),Ep s f name rest label word []=some (W,rf)->m+1<W.length->
 ∃up rest' q rl nl parts A B b1 b2 i f' w',W[m]? =some up/\Xn L s r name items blocks word rest up rest' q rl nl parts A B b1 b2/\∃(h1:i<up.nd.kids.length)(h2:i<up.nd.labels.length),
  up.nd.pre++up.nd.labels[i]::rest'.drop (up.nd.pre.length+1)=rest'/\(rest'.drop (up.nd.pre.length+1)).length<f'/\up.nd.kids[i]≠0/\Ep s f' up.nd.kids[i] (rest'.drop (up.nd.pre.length+1)) up.nd.labels[i] w' []=some (W.drop (m+1),rf)
 | m,0,_,_,_,_,_,_,_,_,_,h,_,_,_,_,_,_=>absurd h (by omega)
 | m,f+1,r,name,items,blocks,rest,label,word,ht,hnd,hf,hrl,hn0,W,rf,hW,hm=>by
   cases ht with
   | mk _ _ nd parts hrd hpre Na hlen hk=>
     obtain⟨o,ho,htk,hr,hw⟩:=H9 ok hrd;rw [Ep,if_neg hn0,hrd]at hW
     dsimp only at hW
     by_cases h1:common nd.pre rest<nd.pre.length\/common nd.pre rest=rest.length
     ·rw [if_pos h1]at hW;injection hW with hW;injection hW with hW _
      rw [<-hW]at hm;simp at hm
     ·rw [if_neg h1]at hW;cases hkp:Ov nd (rest.getD (common nd.pre rest) 0)with
      | none=>
        rw [hkp]at hW;injection hW with hW;injection hW with hW _
        rw [<-hW]at hm;simp at hm
      | some kn=>
        obtain⟨kid,number⟩:=kn;obtain⟨hc,hlt,i,hi1,hi2,rfl,rfl,hlab,hcut⟩:=Wp hr h1 hkp;rw [hkp]at hW;simp only at hW;rw [hc,<-hlab,NL]at hW;obtain⟨p,hp,h2⟩:=P7.1 hW;obtain⟨W2,r2⟩:=p;injection h2 with h3 h4
        simp only at h3 h4;subst h4;subst h3;have hi3:i<parts.length:=by omega
        have hkr:=Na (fun e=>by rw [e]at hi1;simp at hi1);have hk0:nd.kids[i]≠0:=fun e=>((Bo nd).1 hr).2.2.2.2.2 i hi1 (by rw [e];rfl)
        have bH:=(Ht.1 hnd).2;rw [Kz parts i hi3]at bH;have n4:=(Cj.1 (Cj.1 bH).2.1).1
        match m,hm with
        | 0,hm=>exact⟨⟨nd,Bi name,label,word⟩,rest,[],r,name,parts,[],[],[],[],i,f,_,by simp,Wn hrd hpre Na hlen hk,hi1,hi2,hcut,by rw [AV];show rest.length- (nd.pre.length+1)<f;omega,hk0,by simpa using hp⟩
        | m+1,hm=>
          obtain⟨up,rest',q,rl,nl,Wl,A,B,b1,b2,i',f',w',e1,S,g1,g2,g3,g4,g5,g6⟩:=zH ok m f (r-nd.pre.length-1) nd.kids[i] parts[i].items parts[i].blocks (rest.drop (nd.pre.length+1)) nd.labels[i] (Bi name+8*(O8 nd i:Nat)) (hk i hi1 hi3) n4 (by rw [AV];omega) (by rw [AV];omega) hk0 W2 r2 hp (by simpa using hm);exact⟨up,rest',_,rl,nl,Wl,_,_,_,_,i',f',w',by simpa using e1,fB ok ho htk hr hw hpre hlen hk hnd hi1 hi2 hi3 hkr hcut S,g1,g2,g3,g4,g5,by simpa using g6⟩
theorem Wv (ok : BA L s) : ∀ (f r : Nat) (name : UInt64) (items : List Kv) (blocks : List Nat) (rest : List UInt8) (label : UInt8) (word : Int), DF s r name items blocks -> rest.length < f -> name ≠ 0 ->
    ∀ (W : List Pl) (rf : List UInt8) (last : Pl), Ep s f name rest label word [] = some (W, rf) -> CX W rf = some last -> last.nd.kids.length = 0 -> last.nd.val ≠ 0 ->
    (∀ i up, i + 1 < W.length -> W[i]? = some up -> up.nd.val = 0 /\ up.nd.kids.length = 1) -> items = [(rest, last.nd.val)] /\ blocks.map Cc = W.map (·.off)
  | 0, _, _, _, _, _, _, _, _, h, _, _, _, _, _, _, _, _, _ => absurd h (by omega)
  | f + 1, r, name, items, blocks, rest, label, word, ht, hf, hn0, W, rf, last, hW, hst, hk0, hv0, hup => by
    cases ht with
    | mk _ _ nd parts hrd hpre Na hlen hk =>
      obtain ⟨o, ho, htk, hr, hw⟩ := H9 ok hrd
      rw [Ep, if_neg hn0, hrd] at hW
      dsimp only at hW
      have hoff : Cc (Bi name).toNat = Bi name := by rw [ho, Cm]; rfl
      have one : [(⟨nd, Bi name, label, word⟩ : Pl)] = W -> rest = rf -> BX nd ++ Bl nd.pre nd.labels parts = [(rest, last.nd.val)] /\ ((Bi name).toNat :: AY parts).map Cc = W.map (·.off) := fun e1 e2 => by
        subst e1
        subst e2
        unfold CX at hst
        simp only [List.getLast?_singleton] at hst
        split at hst
        · rename_i hpr
          injection hst with hst
          subst hst
          simp only at hk0 hv0 hpr ⊢
          have hp0 : parts = [] := List.length_eq_zero_iff.1 (by omega)
          subst hp0
          unfold BX
          rw [if_pos hv0, hpr]
          have : Bl rest nd.labels [] = [] := by cases nd.labels <;> rfl
          rw [this]
          exact ⟨rfl, by rw [BU, hoff]; rfl⟩
        · cases hst
      by_cases h1 : common nd.pre rest < nd.pre.length \/ common nd.pre rest = rest.length
      · rw [if_pos h1] at hW
        injection hW with hW; injection hW with e1 e2
        exact one (by simpa using e1) e2
      · rw [if_neg h1] at hW
        cases hkp : Ov nd (rest.getD (common nd.pre rest) 0) with
        | none =>
          rw [hkp] at hW
          injection hW with hW; injection hW with e1 e2
          exact one (by simpa using e1) e2
        | some kn =>
          obtain ⟨kid, number⟩ := kn
          obtain ⟨hc, hlt, i, hi1, hi2, rfl, rfl, hlab, hcut⟩ := Wp hr h1 hkp
          rw [hkp] at hW
          simp only at hW
          rw [hc, <- hlab, NL] at hW
          obtain ⟨p, hp, h2⟩ := P7.1 hW
          obtain ⟨W2, r2⟩ := p
          injection h2 with h3 h4
          simp only at h3 h4
          subst h4
          subst h3
          have hk1 : nd.kids[i] ≠ 0 := fun e => ((Bo nd).1 hr).2.2.2.2.2 i hi1 (by rw [e]; rfl)
          obtain ⟨f', rfl⟩ : ∃ f', f = f' + 1 := ⟨f - 1, by omega⟩
          obtain ⟨x, W3, rfl, _, _⟩ := fF hp hk1
          obtain ⟨hv, hl1⟩ := hup 0 ⟨nd, Bi name, label, word⟩ (by simp) (by simp)
          simp only at hv hl1
          obtain rfl : i = 0 := by omega
          have hll : nd.labels.length = 1 := by have := ((Bo nd).1 hr).2.2.1; omega
          obtain ⟨p, hp0⟩ : ∃ p, parts = [p] := kZ.1 (by omega)
          subst hp0
          obtain ⟨lb, hlb⟩ : ∃ lb, nd.labels = [lb] := kZ.1 hll
          have hst2 : CX (x :: W3) r2 = some last := by
            unfold CX at hst ⊢
            simpa using hst
          have ih := Wv ok (f' + 1) (r - nd.pre.length - 1) nd.kids[0] p.items p.blocks (rest.drop (nd.pre.length + 1)) nd.labels[0] _ (hk 0 hi1 (by simp)) (by rw [AV]; omega) hk1 (x :: W3) r2 last hp hst2 hk0 hv0 (fun t up ht hup' => hup (t + 1) up (by simpa using ht) (by simpa using hup'))
          refine ⟨?_, ?_⟩
          · have hcut' : nd.pre ++ lb :: rest.drop (nd.pre.length + 1) = rest := by
              have : nd.labels[0] = lb := by simp [hlb]
              rw [this] at hcut; exact hcut
            rw [hlb]
            unfold BX
            rw [if_neg (by simp [hv])]
            simp only [Bl, Fz, aC, ih.1, EJ, BU, Gq]
            rw [hcut']
          · simp only [AY, BU, Gq, List.flatten_cons, List.flatten_nil, aC]
            rw [ih.2, hoff]
            rfl
theorem ZN(W:List Pl):∀(m:Nat)(_:m<W.length)(old:List Int),∃a,a<=m/\Hw W m old=(a,old++(((W.drop a).take (m-a)).map (·.off)).reverse)/\∀i up,a<=i->i<m->W[i]? =some up->up.nd.val=0/\up.nd.kids.length=1
 | 0,_,old=>⟨0,Ad _,by simp [Hw],fun i up h1 h2=>absurd h2 (by omega)⟩
 | m+1,h,old=>by
   have hm:m<W.length:=by omega
   rw [Hw,Af hm,Af h]
   dsimp only
   split
   ·rename_i hu;obtain⟨a,h1,h2,h3⟩:=ZN W m hm (old++[W[m].off]);refine⟨a,by omega,?_,fun i up g1 g2 g3=> ?_⟩
    ·rw [h2,show m+1-a=(m-a)+1 by omega,List.take_succ_eq_append_getElem (by rw [AV];omega),List.map_append,List.reverse_append];have:(W.drop a)[m-a]'(by rw [AV];omega)=W[m]:=by rw [Adq];congr 1;omega
     simp [this]
    ·by_cases e:i=m
     ·subst e;rw [Af hm]at g3;injection g3 with g3
      exact g3▸hu
     ·exact h3 i up g1 (by omega) g3
   ·exact⟨m+1,Ad _,by simp,fun i up g1 g2=>absurd g2 (by omega)⟩
end
