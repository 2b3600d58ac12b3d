import Derived.Test.YtkimaejoeapmnaaGreatDoorH31
set_option linter.defProp false
open List renaming mem_cons_self->Bh,mem_cons_of_mem->BH,getElem_set->KG,length_set->Di,getD_eq_getElem?_getD->Bi,getElem?_eq_getElem->Af,drop_eq_getElem_cons->Eg,append_assoc->AX,nodup_cons->Hz,nodup_append->CE,getElem?_map->BZ,getElem?_range->Ua,cons_append->Cj,length_append->AQ,mem_append->AL,mem_map->Ba,length_drop->AV,getElem_drop->Yd,ext_getElem->Eu,getElem_set_self->Rl,getElem_set_ne->zD,mem_flatten->Nz,map_cons->Cb,foldl_cons->SN,mem_cons->CJ,nil_append->EM,mem_singleton->BD,mem_append_right->Bl,mem_append_left->BG,append_cancel_left->Ey,length_eq_one_iff->nR,append_nil->df,map_nil->Gv
open Int renaming toNat_natCast->Cm,ofNat->Cf
open Nat renaming le_refl->Ad
open Option renaming map_eq_some_iff->PU
namespace Go.Proofs.YtkimaejoeapmnaaGreatDoor
def FC(ws:Nat->UInt64)(j n t:Nat)(h:t<(wordsAt ws j n).length):(wordsAt ws j n)[t]=ws (j+t):=by
 simp [wordsAt]
def Sv:∀(ls:List UInt8)(ks:List UInt64)(row:List UInt64)(j:Nat)(k:UInt64),(∀b∈ls,4+b.toNat≠j)->CV (row.set j k) ls ks=(CV row ls ks).set j k
 | [],ks,row,j,k,_=>by cases ks<;>simp [CV]
 | a::ls,[],row,j,k,_=>by simp [CV]
 | a::ls,k0::ks,row,j,k,h=>by
   rw [CV,CV,<-List.set_comm _ _ (h a (Bh ..)),Sv ls ks _ j k (λb hb=>h b (BH _ hb))]
def Sz:∀(ls:List UInt8)(ks:List UInt64)(row:List UInt64)(i:Nat)(k:UInt64)(h1:i<ls.length),ls.length=ks.length->DW ls=true->CV row ls (ks.set i k)=(CV row ls ks).set (4+ls[i].toNat) k
 | a::ls,k0::ks,row,0,k,_,_,hr=>by
   obtain⟨_,h2⟩:=KC hr;rw [List.set_cons_zero,CV,CV];have h3:∀b∈ls,4+b.toNat≠4+a.toNat:=λb hb=>Ω (h2 b hb)
   rw [Sv ls ks row _ k h3,Sv ls ks row _ k0 h3];simp only [List.getElem_cons_zero,List.set_set]
 | a::ls,k0::ks,row,i+1,k,h1,hl,hr=>by
   obtain⟨h3,_⟩:=KC hr;rw [List.set_cons_succ,CV,CV,Sz ls ks _ i k (by simpa using h1) (by simpa using hl) h3];rfl
def KE(x:Nd)(i:Nat)(k:UInt64):Nd:={x with kids:=x.kids.set i k}
def rJ{x:Nd}(h:C9 x=true)(i:Nat){k:UInt64}(hk:k≠0):C9 (KE x i k)=true:=by
 obtain⟨h1,h2,h3,h4,h5,h6⟩:=(Bq x).1 h;rw [Bq];have aux:∀j(hj:j<(x.kids.set i k).length),(x.kids.set i k)[j].toNat≠0:=λj hj=>by
  rw [KG];split
  ·exact Ahj hk
  ·exact h6 j (by rwa [Di]at hj)
 exact⟨h1,h2,by show _=(x.kids.set i k).length;rw [Di];exact h3,h4,h5,aux⟩
def XN(x:Nd)(i:Nat)(k:UInt64):Dp (KE x i k)=Dp x:=by
 unfold Dp KE;rw [Di]
def Adj{x:Nd}(h:C9 x=true){i:Nat}(hi:i<x.kids.length)(k:UInt64):Ea (KE x i k)=(Ea x).set (OY x i) k:=by
 obtain⟨h1,h2,h3,h4,h5,h6⟩:=(Bq x).1 h;unfold Ea OY;rw [show(KE x i k).kids=x.kids.set i k from rfl,Di];by_cases h4':x.kids.length<=4
 ·rw [if_pos h4',if_pos h4',if_pos h4'];unfold encS;rw [show(KE x i k).kids=x.kids.set i k from rfl,show(KE x i k).pre=x.pre from rfl,show(KE x i k).val=x.val from rfl,show(KE x i k).labels=x.labels from rfl,Di];rw [List.set_append_left _ _ (by simp;omega),List.set_append_right _ _ Θ];simp
 ·rw [if_neg h4',if_neg h4',if_neg h4'];unfold Rt;rw [show headB (KE x i k)=headB x by unfold headB;rw [show(KE x i k).kids=x.kids.set i k from rfl,Di];rfl,show(KE x i k).labels=x.labels from rfl,show(KE x i k).kids=x.kids.set i k from rfl];rw [Sz x.labels x.kids (headB x) i k O h3 h5,XM O]
def Adk{x:Nd}(h:C9 x=true){lab:UInt8}{kid:UInt64}{number:Nat}(hk:OL x lab=some (kid,number)):∃(i:Nat)(h1:i<x.kids.length)(h2:i<x.labels.length),x.labels[i]=lab/\kid=x.kids[i]/\number=OY x i:=by
 have hl:=((Bq x).1 h).2.2.1;unfold OL at hk;split at hk
 ·rename_i i hf;rw [if_pos h]at hk;simp only [Option.some.injEq,Prod.mk.injEq]at hk;unfold J6 at hf;obtain⟨hi,hp,_⟩:=List.findIdx?_eq_some_iff_getElem.1 hf;have he:x.labels[i]=lab:=UInt8.toNat_inj.1 (by simpa using hp);refine⟨i,O,hi,he,?_,?_⟩
  ·rw [<-hk.1,Bi,Af O];rfl
  ·rw [<-hk.2];unfold OY;rw [XM hi,he]
 ·cases hk
def iJ{x:Nd}(h:C9 x=true){lab:UInt8}(hk:OL x lab=none):Pn x.labels lab=false:=by
 unfold OL at hk;split at hk
 ·rw [if_pos h]at hk;cases hk
 ·rename_i hf;unfold J6 at hf;rw [List.findIdx?_eq_none_iff]at hf;unfold Pn;rw [List.any_eq_false];intro y hy;have:=hf y hy;simpa using this
def S9(pre:List UInt8)(ls:List UInt8)(ps:List Part)(i:Nat)(h1:i<ls.length)(h2:i<ps.length)(h:ls.length=ps.length):
 Bo pre ls ps=Bo pre (ls.take i) (ps.take i)++(EO pre ls[i] ps[i].items++Bo pre (ls.drop (i+1)) (ps.drop (i+1))):=by
 rw [Su pre ls ps i h,Eg h1,Eg h2];rfl
def KR(ps:List Part)(i:Nat)(h2:i<ps.length):AY ps=AY (ps.take i)++(ps[i].blocks++AY (ps.drop (i+1))):=by
 rw [QR ps i,Eg h2];rfl
def TK(q:List UInt8)(l:List Kv):List Kv:=l.map λkv=>(q++kv.1,kv.2)
def rM(l:List Kv):TK [] l=l:=by simp [TK]
def XO(pre:List UInt8)(lb:UInt8)(q:List UInt8)(A l B:List Kv):EO pre lb (A++TK q l++B)=EO pre lb A++TK (pre++lb::q) l++EO pre lb B:=by
 unfold EO TK;simp [List.map_map,Function.comp_def,AX]
structure XP(L:Nat)(s:St)(r:Nat)(name:UInt64)(items:List Kv)(blocks:List Nat)(word:Int)(rest:List UInt8)(last:Pl)(rest' q:List UInt8)(rl:Nat)(nl:UInt64)(parts:List Part)(A B:List Kv)(b1 b2:List Nat):Prop where
 rd:Fb s nl=some last.nd
 off:Bj nl=last.off
 pre:last.nd.pre.length<=rl
 kid:last.nd.kids≠[]->last.nd.pre.length+1<=rl
 len:parts.length=last.nd.kids.length
 sub:∀i(h1:i<last.nd.kids.length)(h2:i<parts.length),DV s (rl-last.nd.pre.length-1) last.nd.kids[i] parts[i].items parts[i].blocks
 cut:rest=q++rest'
 lens:q.length+rl=r
 its:items=A++TK q (BX last.nd++Bo last.nd.pre last.nd.labels parts)++B
 bls:blocks=b1++(last.off.toNat::AY parts)++b2
 lo:∀kv∈A,∀t,Op.bytesLess kv.1 (q++t)=true
 hi:∀kv∈B,∀t,Op.bytesLess (q++t) kv.1=true
 wd:(q=[]/\last.word=word/\nl=name)\/(q≠[]/\∃p c j,p∈b1/\AO s p c/\GR p c j/\last.word=((8*j:Nat):Int)/\s.ws j=nl)
 swap:∀(s':St)(name':UInt64)(Xd:List Kv)(UC:List Nat),Bz L s'->name'≠0->DV s' rl name' Xd UC->(∀o c,(o∈b1\/o∈b2)->AO s o c->AO s' o c/\∀j,GR o c j->s'.ws j=if((8*j:Nat):Int)=last.word then name' else s.ws j)->
  DV s' r (if q=[]then name' else name) (A++TK q Xd++B) (b1++UC++b2)
structure Avw(L:Nat)(s:St)(r:Nat)(name:UInt64)(items:List Kv)(blocks:List Nat)(word:Int)(rest:List UInt8)(last:Pl)(rest' q:List UInt8)(rl:Nat)(nl:UInt64)(parts:List Part)(A B:List Kv)(b1 b2:List Nat):Prop extends XP L s r name items blocks word rest last rest' q rl nl parts A B b1 b2 where
 stop:common last.nd.pre rest'<last.nd.pre.length\/common last.nd.pre rest'=rest'.length\/OL last.nd (rest'.getD (common last.nd.pre rest') 0)=none
section
variable{L:Nat}{s:St}
def SA(ok:Bz L s){o p c d j k:Nat}(h:AO s o c)(k1:AO s p d)(hne:o≠p)(hj:GR o c j)(hk:GR p d k):j≠k:=λe=>by
 subst e;exact MS (rC ok h k1 hne) (h.bounds ok).2.2 (k1.bounds ok).2.2 hj hk
def iK(ok:Bz L s){r:Nat}{name:UInt64}{nd:Nd}{parts:List Part}{o:Nat}{rest Amn:List UInt8}{word:Int}{i:Nat}(ho:Bj name=o)(htk:AO s o (Dp nd))(hr:C9 nd=true)(hw:wordsAt s.ws (o/8) (8*Bf (Dp nd))=Ea nd)
 (hpre:nd.pre.length<=r)(hlen:parts.length=nd.kids.length)
 (hk:∀i(h1:i<nd.kids.length)(h2:i<parts.length),DV s (r-nd.pre.length-1) nd.kids[i] parts[i].items parts[i].blocks)(hnd:((Bj name).toNat::AY parts).Nodup)(hi1:i<nd.kids.length)(hi2:i<nd.labels.length)(hi3:i<parts.length)(hkr:nd.pre.length+1<=r)(hcut:nd.pre++nd.labels[i]::Amn=rest)
 {last:Pl}{rest' q0:List UInt8}{rl:Nat}{nl:UInt64}{Xe:List Part}{A0 B0:List Kv}{b10 b20:List Nat}
 (S:XP L s (r-nd.pre.length-1) nd.kids[i] parts[i].items parts[i].blocks (Bj name+8*(OY nd i:Nat)) Amn last rest' q0 rl nl Xe A0 B0 b10 b20):
 XP L s r name (BX nd++Bo nd.pre nd.labels parts) ((Bj name).toNat::AY parts) word rest last rest' (nd.pre++nd.labels[i]::q0) rl nl Xe (BX nd++Bo nd.pre (nd.labels.take i) (parts.take i)++EO nd.pre nd.labels[i] A0) (EO nd.pre nd.labels[i] B0++Bo nd.pre (nd.labels.drop (i+1)) (parts.drop (i+1))) (o::AY (parts.take i)++b10) (b20++AY (parts.drop (i+1))):=by
 have hr':=(Bq nd).1 hr;obtain⟨hnd1,dW⟩:=Hz.1 hnd;have hkb:=KR parts i hi3;have Amo:=dW;rw [hkb]at Amo;obtain⟨n1,n2,n3⟩:=CE.1 Amo;obtain⟨n4,n5,n6⟩:=CE.1 n2;rw [ho]at hnd1;rw [Cm]at hnd1;obtain⟨pf1,pf2,_⟩:=yC nd hr i hi1;have hpos:(Ea nd)[OY nd i]? =some nd.kids[i]:=Aas nd hr i hi1;have jI:=htk.bounds ok;have hlw:=KD nd;have hpw:GR o (Dp nd) (o/8+OY nd i):=⟨O,O⟩;have hwp:s.ws (o/8+OY nd i)=nd.kids[i]:=by
  rw [<-hw]at hpos;unfold wordsAt at hpos;rw [BZ,Ua O]at hpos;simpa using hpos
 have hword:∃p c j,(p=o\/p∈b10)/\AO s p c/\GR p c j/\last.word=((8*j:Nat):Int)/\s.ws j=nl:=by
  rcases S.wd with⟨e1,e2,e3⟩| ⟨_,p,c,j,h1,h2,h3,h4,h5⟩
  ·refine⟨o,_,_,.inl rfl,htk,hpw,?_,by rw [hwp,e3]⟩;rw [e2,ho];omega
  ·exact⟨p,c,j,.inr h1,h2,h3,h4,h5⟩
 have WI:∀p∈b10,p∈parts[i].blocks:=λp hp=>by rw [S.bls];simp [hp]
 have Ani:∀p∈b20,p∈parts[i].blocks:=λp hp=>by rw [S.bls];simp [hp]
 have As6:∀j(h:j<nd.labels.length),j<i->nd.labels[j].toNat<nd.labels[i].toNat:=λj h hji=>I8 _ hr'.2.2.2.2.1 j i hji hi2
 have Aoi:∀j(h:j<nd.labels.length),i<j->nd.labels[i].toNat<nd.labels[j].toNat:=λj h hji=>I8 _ hr'.2.2.2.2.1 i j hji h
 refine⟨S.rd,S.off,S.pre,S.kid,S.len,S.sub,?_,?_,?_,?_,?_,?_,?_,?_⟩
 ·rw [AX,Cj,<-S.cut];exact hcut.symm
 ·have:=S.lens;simp only [AQ,List.length_cons];omega
 ·rw [S9 nd.pre nd.labels parts i hi2 hi3 O,S.its,XO];simp only [AX]
 ·rw [ho,Cm,hkb,S.bls];simp only [AX,Cj]
 ·intro kv hkv t;rw [AX,Cj];rcases AL.1 hkv with h| h
  ·rcases AL.1 h with h| h
   ·obtain⟨rfl,_⟩:=FT h;exact iH _ _ _
   ·obtain⟨j,j1,j2,kv',_,rfl⟩:=Fg h;simp only [List.length_take]at j1;rw [List.getElem_take,NP];exact U9 (As6 j O O) _ _
  ·obtain⟨kv',h',rfl⟩:=Ba.1 h;have:=S.lo kv' h' t;show Op.bytesLess (nd.pre++nd.labels[i]::kv'.1) _=true;rw [NP];simp [Op.bytesLess,this]
 ·intro kv hkv t;rw [AX,Cj];rcases AL.1 hkv with h| h
  ·obtain⟨kv',h',rfl⟩:=Ba.1 h;have:=S.hi kv' h' t;show Op.bytesLess _ (nd.pre++nd.labels[i]::kv'.1)=true;rw [NP];simp [Op.bytesLess,this]
  ·obtain⟨j,j1,j2,kv',_,rfl⟩:=Fg h;simp only [AV]at j1;rw [Yd,NP];exact U9 (Aoi _ O O) _ _
 ·right;refine⟨by simp,?_⟩;obtain⟨p,c,j,h1,h2⟩:=hword;refine⟨p,c,j,?_,h2⟩;rcases h1 with rfl| h1
  ·simp
  ·simp [h1]
 ·intro s' name' Xd UC ok' hn' T' hkeep;obtain⟨pw,cw,jw,Avx,Avy,Avz,Av0,Axp⟩:=hword;have Ahl:∀p c j,p≠pw->AO s p c->GR p c j->¬((8*j:Nat):Int)=last.word:=λp c j hp ht hj e=>by
   have:=SA ok ht Avy hp hj Avz;rw [Av0]at e;omega
  have T0:=S.swap s' name' Xd UC ok' hn' T' (λp c hp ht=>hkeep p c (by
   rcases hp with hp| hp
   ·left;simp [hp]
   ·right;simp [hp]) ht)
  obtain⟨SB,Aau⟩:∃k,k=(if q0=[]then name' else nd.kids[i]):=⟨_,rfl⟩;rw [<-Aau]at T0;have hk0':SB≠0:=by
   rw [Aau];split
   ·exact hn'
   ·exact λe=>hr'.2.2.2.2.2 i hi1 (by rw [e];rfl)
  obtain⟨t1,t2⟩:=hkeep o _ (by left;simp) htk;have hread:Fb s' name=some (KE nd i SB):=by
   refine YK ok' ho (by rw [XN];exact t1) (rJ hr i hk0') ?_;rw [XN,Adj hr hi1 SB];refine Eu (by simp [wordsAt,hlw]) λt g1 g2=> ?_
   have htl:t<8*Bf (Dp nd):=by simpa [wordsAt]using g1
   have hold:s.ws (o/8+t)=(Ea nd)[t]' O:=by
    have:(wordsAt s.ws (o/8) (8*Bf (Dp nd)))[t]? =(Ea nd)[t]? :=by rw [hw]
    unfold wordsAt at this;rw [BZ,Ua htl,Af O]at this;simpa using this
   have hib:GR o (Dp nd) (o/8+t):=⟨O,O⟩;rw [FC,t2 _ hib,KG];rcases S.wd with⟨e1,e2,e3⟩| ⟨e1,p,c,j,p1,p2,p3,p4,p5⟩
   ·have hkn:SB=name':=by rw [Aau,if_pos e1]
    by_cases e:t=OY nd i
    ·rw [if_pos (by rw [e2,ho];omega),if_pos e.symm,hkn]
    ·rw [if_neg (by rw [e2,ho];omega),if_neg (λh=>e h.symm)];exact hold
   ·have hkn:SB=nd.kids[i]:=by rw [Aau,if_neg e1]
    have hpo:p≠o:=λe=>hnd1 (by rw [<-e,hkb];simp [WI p p1])
    have:¬((8*(o/8+t):Nat):Int)=last.word:=λe=>by
     have:=SA ok htk p2 (λe=>hpo e.symm) hib p3;rw [p4]at e;omega
    rw [if_neg this];by_cases e:OY nd i=t
    ·subst e;rw [if_pos rfl,hkn,hwp]
    ·rw [if_neg e];exact hold
  have T2:=DV.mk (s:=s') r name (KE nd i SB) (parts.set i ⟨A0++TK q0 Xd++B0,b10++UC++b20⟩) hread hpre (λ_=>hkr) (by show _=(nd.kids.set i SB).length;rw [Di,Di];exact hlen) (λt g1 g2=>by
   have g1':t<nd.kids.length:=by have:t<(nd.kids.set i SB).length:=g1;rwa [Di]at this
   have g2':t<parts.length:=by rwa [Di]at g2
   by_cases e:i=t
   ·subst e;have e1:(KE nd i SB).kids[i]=SB:=by show(nd.kids.set i SB)[i]'(by rw [Di];exact hi1)=SB;rw [Rl]
    have e2:(parts.set i ⟨A0++TK q0 Xd++B0,b10++UC++b20⟩)[i]=⟨A0++TK q0 Xd++B0,b10++UC++b20⟩:=by rw [Rl]
    rw [e1,e2];exact T0
   ·have e1:(KE nd i SB).kids[t]=nd.kids[t]:=by show(nd.kids.set i SB)[t]'(by rw [Di];exact g1')=nd.kids[t];rw [zD e]
    have e2:(parts.set i ⟨A0++TK q0 Xd++B0,b10++UC++b20⟩)[t]=parts[t]:=by rw [zD e]
    rw [e1,e2];refine(hk t g1' g2').keep ok ok' (B:=λp=>p∈parts[t].blocks) (λp c hp ht=> ?_) (λ_ h=>h);have Aoj:p∈AY (parts.take i)\/p∈AY (parts.drop (i+1)):=by
     unfold AY;rcases Nat.lt_or_gt_of_ne e with h| h
     ·right;exact Nz.2 ⟨_,Ba.2 ⟨parts[t],List.mem_drop_iff_getElem.2 ⟨t- (i+1),O,by simp only [show i+1+(t- (i+1))=t by omega]⟩,rfl⟩,hp⟩
     ·left;exact Nz.2 ⟨_,Ba.2 ⟨parts[t],List.mem_take_iff_getElem.2 ⟨t,O,rfl⟩,rfl⟩,hp⟩
    obtain⟨u1,u2⟩:=hkeep p c (by
     rcases Aoj with h| h
     ·left;simp [h]
     ·right;simp [h]) ht
    refine⟨u1,λj hj=> ?_⟩;rw [u2 j hj,if_neg];refine Ahl p c j (λe'=> ?_) ht hj;subst e';rcases Avx with h| h
    ·subst h;refine hnd1 ?_;rw [hkb];rcases Aoj with h| h<;>simp [h]
    ·have h':=WI _ h;rcases Aoj with h2| h2
     ·exact n3 _ h2 _ (by simp [h']) rfl
     ·exact n6 _ h' _ h2 rfl)
  rw [if_neg Θ];have hl2:i<(parts.set i (⟨A0++TK q0 Xd++B0,b10++UC++b20⟩:Part)).length:=by rw [Di];exact hi3
  rw [ho,Cm,show(KE nd i SB).pre=nd.pre from rfl,show(KE nd i SB).labels=nd.labels from rfl,show BX (KE nd i SB)=BX nd from rfl,
   S9 nd.pre nd.labels _ i hi2 hl2 (by rw [Di];omega),KR _ i hl2]at T2
  simp only [Rl,List.take_set_of_le (Ad i),List.drop_set_of_lt (Nat.lt_succ_self i)]at T2;rw [XO]at T2;simpa only [AX,Cj]using T2
def Xf{r:Nat}{name:UInt64}{nd:Nd}{parts:List Part}{rest:List UInt8}{label:UInt8}{word:Int}(hrd:Fb s name=some nd)(hpre:nd.pre.length<=r)(Ov:nd.kids≠[]->nd.pre.length+1<=r)(hlen:parts.length=nd.kids.length)
 (hk:∀i(h1:i<nd.kids.length)(h2:i<parts.length),DV s (r-nd.pre.length-1) nd.kids[i] parts[i].items parts[i].blocks):
 XP L s r name (BX nd++Bo nd.pre nd.labels parts) ((Bj name).toNat::AY parts) word rest ⟨nd,Bj name,label,word⟩ rest [] r name parts [] [] [] []:=
 ⟨hrd,rfl,hpre,Ov,hlen,hk,rfl,by simp,by simp [rM],by simp,(λ_ h=>by cases h),(λ_ h=>by cases h),.inl ⟨rfl,rfl,rfl⟩,λs' name' Xd UC _ _ T _=>by simpa [rM]using T⟩
def Xg{nd:Nd}{rest:List UInt8}{kid:UInt64}{number:Nat}(hr:C9 nd=true)(h1:¬(common nd.pre rest<nd.pre.length\/common nd.pre rest=rest.length))(hkp:OL nd (rest.getD (common nd.pre rest) 0)=some (kid,number)):
 common nd.pre rest=nd.pre.length/\nd.pre.length<rest.length/\∃(i:Nat)(hi1:i<nd.kids.length)(hi2:i<nd.labels.length),kid=nd.kids[i]/\number=OY nd i/\nd.labels[i]=rest.getD nd.pre.length 0/\nd.pre++nd.labels[i]::rest.drop (nd.pre.length+1)=rest:=by
 obtain⟨i,hi1,hi2,hlab,rfl,rfl⟩:=Adk hr hkp;have hc:common nd.pre rest=nd.pre.length:=Ω (Je nd.pre rest)
 have hlt:nd.pre.length<rest.length:=Ω (Fq nd.pre rest)
 have hct:=Rq nd.pre rest;rw [hc]at hct hlab;rw [List.take_length]at hct;have hcut:=Aky hlt;rw [<-hct,<-hlab]at hcut;exact⟨hc,hlt,i,hi1,hi2,rfl,rfl,hlab,hcut⟩
def iL(ok:Bz L s):∀(f r:Nat)(name:UInt64)(items:List Kv)(blocks:List Nat)(rest:List UInt8)(label:UInt8)(word:Int)(way:List Pl),DV s r name items blocks->blocks.Nodup->rest.length<f->rest.length<=r->name≠0->
 ∃last rest' q rl nl parts A B b1 b2 Ahm,Ez s f name rest label word way=some (way++Ahm++[last],rest')/\Avw L s r name items blocks word rest last rest' q rl nl parts A B b1 b2
 | 0,_,_,_,_,_,_,_,_,_,_,h,_,_=>absurd h O
 | f+1,r,name,items,blocks,rest,label,word,way,ht,hnd,hf,hrl,hn0=>by
   cases ht with
   | mk _ _ nd parts hrd hpre Ov hlen hk=>
     obtain⟨o,ho,htk,hr,hw⟩:=IQ ok hrd;rw [Ez,if_neg hn0,hrd]
     dsimp only
     by_cases h1:common nd.pre rest<nd.pre.length\/common nd.pre rest=rest.length
     ·rw [if_pos h1];exact⟨⟨nd,Bj name,label,word⟩,_,_,_,_,_,_,_,_,_,[],by simp,⟨Xf hrd hpre Ov hlen hk,h1.imp id .inl⟩⟩
     ·rw [if_neg h1];cases hkp:OL nd (rest.getD (common nd.pre rest) 0)with
      | none=>exact⟨⟨nd,Bj name,label,word⟩,_,_,_,_,_,_,_,_,_,[],by simp,⟨Xf hrd hpre Ov hlen hk,.inr (.inr hkp)⟩⟩
      | some kn=>
        obtain⟨kid,number⟩:=kn;obtain⟨hc,hlt,i,hi1,hi2,rfl,rfl,hlab,hcut⟩:=Xg hr h1 hkp;have hi3:i<parts.length:=O
        have hkr:=Ov (λe=>by rw [e]at hi1;simp at hi1);have dW:=(Hz.1 hnd).2;rw [KR parts i hi3]at dW;have n4:=(CE.1 (CE.1 dW).2.1).1;obtain⟨last,rest',q0,rl,nl,Xe,A0,B0,b10,b20,Ahm,hp,S⟩:=iL ok f (r-nd.pre.length-1) nd.kids[i] parts[i].items parts[i].blocks (rest.drop (nd.pre.length+1)) (rest.getD (common nd.pre rest) 0) (Bj name+8*(OY nd i:Nat)) (way++[⟨nd,Bj name,label,word⟩]) (hk i hi1 hi3) n4 (by rw [AV];omega) (by rw [AV];omega) (λe=>((Bq nd).1 hr).2.2.2.2.2 i hi1 (by rw [e];rfl));simp only;rw [hc]at hp⊢;exact⟨last,rest',_,rl,nl,Xe,_,_,_,_,⟨nd,Bj name,label,word⟩::Ahm,by rw [hp];simp,⟨iK ok ho htk hr hw hpre hlen hk hnd hi1 hi2 hi3 hkr hcut S.toXP,S.stop⟩⟩
end
structure Ox(X:Nat->Prop)(L:Nat)(s:St)(items:List Kv):Prop where
 ok:Bz L s
 nh:∀o d,¬EK s o d
 tree:(s.ws 9=0/\items=[]/\∀o,(∃d,AO s o d)<->X o)\/(∃blocks,s.ws 9≠0/\DV s 32 (s.ws 9) items blocks/\blocks.Nodup/\(∀o∈blocks,¬X o)/\∀o,(∃d,AO s o d)<->o∈blocks\/X o)
 even:∀kv∈items,Jv kv.1=true
abbrev Av1:=Ox (λ_=>False)
structure QS(X:Nat->Prop)(s s':St):Prop where
 sh:s'.sh=s.sh
 low:∀j,j<16->j≠9->s'.ws j=s.ws j
 keep:FB s s' X
section
variable{X:Nat->Prop}{L:Nat}{s:St}
def PQ{s s':St}(h1:s'.hd=s.hd)(h2:s'.sh=s.sh)(o d:Nat):EK s' o d<->EK s o d:=by
 unfold EK hdN;rw [h1,h2]
def VE:∀(l:List Nat){s:St}(_:Bz L s),l.Nodup->(∀o∈l,∃d,AO s o d)->
 ∃s2,Uf s (l.map Cf)=s2/\Bz L s2/\s2.sh=s.sh/\s2.hd=s.hd/\(∀j,(j<16\/16+s.sh.BM<=j)->s2.ws j=s.ws j)/\∀o d,AO s2 o d<->AO s o d/\o∉l
 | [],s,ok,_,_=>⟨s,rfl,ok,rfl,rfl,λ_ _=>rfl,λo d=>by simp⟩
 | o::l,s,ok,hn,ht=>by
   obtain⟨hn1,hn2⟩:=Hz.1 hn;obtain⟨d,hd⟩:=ht o (Bh ..);obtain⟨s1,e1,ok1,sh1,hd1,Y5,tk1⟩:=YJ ok hd;obtain⟨s2,e2,ok2,nN,hd2,ws2,lD⟩:=VE l ok1 hn2 (λp hp=>by
    obtain⟨d',hd'⟩:=ht p (BH _ hp);exact⟨d',(tk1 p d').2 ⟨hd',λe=>hn1 (e▸hp)⟩⟩)
   refine⟨s2,?_,ok2,nN.trans sh1,hd2.trans hd1,λj hj=>(ws2 j (by rw [sh1];exact hj)).trans (Y5 j hj),λp c=> ?_⟩
   ·rw [<-e2];unfold Uf;rw [Cb,SN];show List.foldl _ (IE s (Cf o)).1 _=_;rw [show(Cf o)=(o:Int)from rfl,e1]
   ·rw [lD,tk1,CJ,not_or];exact⟨λh=>⟨h.1.1,h.1.2,h.2⟩,λh=>⟨⟨h.1,h.2.1⟩,h.2.2⟩⟩
def aZ:∀(l:List Nat){s:St}(_:Bz L s),l.Nodup->(∀o∈l,∃d,AO s o d)->Ru s (l.map Cf) 0=(Uf s (l.map Cf),0)
 | [],s,_,_,_=>rfl
 | o::l,s,ok,hn,ht=>by
   obtain⟨hn1,hn2⟩:=Hz.1 hn;obtain⟨d,hd⟩:=ht o (Bh ..);obtain⟨s1,e1,ok1,sh1,hd1,Y5,tk1⟩:=YJ ok hd;have ih:=aZ l ok1 hn2 (λp hp=>by
    obtain⟨d',hd'⟩:=ht p (BH _ hp);exact⟨d',(tk1 p d').2 ⟨hd',λe=>hn1 (e▸hp)⟩⟩)
   unfold Uf at ih⊢;rw [Cb,SN,Ru,show(Cf o)=(o:Int)from rfl,e1];simpa using ih
def Aav{s0:St}{j:Jb}{B:List Nat}(_:Bz L s0)(g:Grown L s0 j B):∃s2,Uf j.s j.made=s2/\Bz L s2/\(∀o d,¬EK s2 o d)/\(∀o,(∃d,AO s2 o d)<->∃d,AO s0 o d)/\FB s0 s2 (λ_=>True)/\(∀i,i<16->s2.ws i=s0.ws i)/\s2.sh=s0.sh:=by
 obtain⟨s2,e2,ok2,nN,hd2,ws2,lD⟩:=VE B g.ok g.xQ (λo ho=>(g.tk o).2 (.inr ho));refine⟨s2,by rw [g.made];exact e2,ok2,λo d h=>g.nh o d ((PQ hd2 nN o d).1 h),λo=> ?_,λo c _ ht=> ?_,λi hi=>(ws2 i (.inl hi)).trans (g.low i hi),nN.trans g.sh⟩
 ·constructor
  ·rintro⟨d,h⟩;obtain⟨h1,h2⟩:=(lD o d).1 h;exact((g.tk o).1 ⟨d,h1⟩).resolve_right h2
  ·rintro⟨d,h⟩;obtain⟨h1,_⟩:=g.keep o d trivial h;exact⟨d,(lD o d).2 ⟨h1,λhB=>g.new o hB d h⟩⟩
 ·obtain⟨h1,h2⟩:=g.keep o c trivial ht;refine⟨(lD o c).2 ⟨h1,λhB=>g.new o hB c ht⟩,λj hj=> ?_⟩;rw [ws2 j (.inr ?_),h2 j hj];have:=g.ok.DF (h1.bounds g.ok).1 hj;exact this
def Ox.same{s':St}{items:List Kv}(h:Ox X L s items)(ok':Bz L s')(nh':∀o d,¬EK s' o d)(htk:∀o,(∃d,AO s' o d)<->∃d,AO s o d)(hk:FB s s' (λ_=>True))(h9:s'.ws 9=s.ws 9):Ox X L s' items:=by
 refine⟨ok',nh',?_,h.even⟩;rcases h.tree with⟨h1,h2,h3⟩| ⟨bl,h1,h2,h3,hX,h4⟩
 ·exact .inl ⟨by rw [h9,h1],h2,λo=>(htk o).trans (h3 o)⟩
 ·exact .inr ⟨bl,by rw [h9];exact h1,by rw [h9];exact h2.keep h.ok ok' hk (λ_ _=>trivial),h3,hX,λo=>(htk o).trans (h4 o)⟩
def rO{a b:List UInt8}(h:Op.bytesLess a b=true):a≠b:=λe=>by rw [e,EL]at h;cases h
def Es{q:List UInt8}{l:List Kv}{kv:Kv}:kv∈TK q l<->∃k,(k,kv.2)∈l/\kv.1=q++k:=by
 unfold TK;rw [Ba];constructor
 ·rintro⟨kv',h,rfl⟩;exact⟨kv'.1,h,rfl⟩
 ·rintro⟨k,h,e⟩;exact⟨(k,kv.2),h,by cases kv;simp only at e;subst e;rfl⟩
def rP(items items':List Kv)(k:List UInt8)(v:UInt64):Prop:=∀kv,kv∈items'<->kv=(k,v)\/(kv∈items/\kv.1≠k)
def Aaw(X:Nat->Prop)(L:Nat)(s:St)(items:List Kv)(k:List UInt8)(v:UInt64)(r:St×Int):Prop:=
 QS X s r.1/\((r.2=6/\Ox X L r.1 items/\∀kv∈items,kv.1≠k)\/(r.2=0/\∃items',Ox X L r.1 items'/\rP items items' k v))
def Xh(k:List UInt8):Jv (Dn k)=true:=vz k
def Adl{items:List Kv}(h:Ox X L s items)(h0:s.ws 9=0)(key:List UInt8)(hk:key.length<=16)(value:UInt64)(hv:value≠0):Aaw X L s items (Dn key) value (KJ s key value):=by
 have hi:items=[]/\∀o,(∃d,AO s o d)<->X o:=by
  rcases h.tree with⟨_,h2,h3⟩| ⟨_,h1,_⟩
  ·exact⟨h2,h3⟩
  ·exact absurd h0 h1
 have hlen:=MI key;have hp:FY s key=some ([],Dn key):=by
  unfold FY;rw [h0,Ez,if_pos rfl]
 have hL:=YL ((Dn key).length+1) (Grown.start h.ok h.nh) 32 (Dn key) value O O (YX key) hv;unfold KJ;rw [if_neg O,if_neg hv,hp];simp only [CZ,List.getLast?_nil];generalize Po ((Dn key).length+1) ⟨s,[]⟩ (Dn key) value=res at hL;obtain⟨j,name,e⟩:=res;rcases hL with⟨e1,B',g⟩| ⟨e1,C,bl,g,hkp,hn,T,hp⟩
 ·simp only at e1 g;subst e1;simp only [H7];rw [if_pos U];obtain⟨s2,e2,ok2,nh2,lD,kp2,lo2,nN⟩:=Aav h.ok g;rw [e2];refine⟨⟨nN,λj hj _=>lo2 j hj,λo c _ ht=>kp2 o c trivial ht⟩,?_⟩;exact .inl ⟨rfl,h.same ok2 nh2 lD kp2 (lo2 9 U),λkv hkv=>by rw [hi.1]at hkv;cases hkv⟩
 ·simp only at e1 g hkp hn T;subst e1;rw [EM]at g;simp only [H7,Ru];rw [if_neg Θ];obtain⟨s',hs'⟩:∃s',s'=({j.s with ws:=FN j.s.ws ((72:Int).toNat/8) name}:St):=⟨_,rfl⟩;rw [<-hs'];have hw:∀i,s'.ws i=if i=9 then name else j.s.ws i:=λi=>by rw [hs'];rfl
  have ok':Bz L s':=hs'▸g.ok.words (λi hi=>by
   show FN j.s.ws 9 name (16+i)=_;unfold FN;rw [if_neg O])
  have htk:∀o d,AO s' o d<->AO j.s o d:=λo d=>by rw [hs'];exact Iff.rfl
  have hk':FB j.s s' (λ_=>True):=λo c _ ht=>⟨(htk o c).2 ht,λi hi=>by
   rw [hw,if_neg];have:=g.ok.DF (ht.bounds g.ok).1 hi;omega⟩
  have hCX:∀o∈bl,¬X o:=λo ho hx=>by
   obtain⟨d,hd⟩:=(hi.2 o).2 hx;exact g.new o (hp.mem_iff.1 ho) d hd
  refine⟨⟨by rw [hs'];exact g.sh,λj hj hj9=>by rw [hw,if_neg hj9,g.low j hj],λo c _ ht=> ?_⟩,?_⟩
  ·obtain⟨u1,u2⟩:=g.keep o c trivial ht;obtain⟨u3,u4⟩:=hk' o c trivial u1;exact⟨u3,λj hj=>(u4 j hj).trans (u2 j hj)⟩
  right;refine⟨rfl,[(Dn key,value)],?_,λkv=>by rw [hi.1];simp⟩;refine⟨ok',λo d hh=>g.nh o d (by rw [hs']at hh;exact hh),.inr ⟨bl,by rw [hw,if_pos rfl];exact hn,by rw [hw,if_pos rfl];exact T.keep g.ok ok' hk' (λ_ _=>trivial),hp.nodup_iff.2 g.xQ,hCX,λo=> ?_⟩,λkv hkv=>by rw [BD]at hkv;subst hkv;exact Xh key⟩;rw [show(∃d,AO s' o d)<->∃d,AO j.s o d from exists_congr (htk o),g.tk o,hp.mem_iff,hi.2 o];exact or_comm
end
def Adm(x:Nd)(v:UInt64):Ea {x with val:=v}=(Ea x).set 2 v:=by
 have hl:(Ea {x with val:=v}).length=(Ea x).length:=by rw [ER,ER]
 refine List.ext_getElem? λi=> ?_
 rw [List.getElem?_set];by_cases h:2=i
 ·subst h;rw [Afi,if_pos rfl,if_pos];rw [ER];split<;>omega
 ·rw [if_neg h,Afh x v i (λe=>h e.symm)]
section
variable{X:Nat->Prop}{L:Nat}{s:St}
structure OH(L:Nat)(s:St)(items:List Kv)(blocks:List Nat)(key:List UInt8)(last:Pl)(rest' q:List UInt8)(rl:Nat)(nl:UInt64)(parts:List Part)(A B:List Kv)(b1 b2:List Nat)(o:Nat):Prop where
 spot:XP L s 32 (s.ws 9) items blocks 72 (Dn key) last rest' q rl nl parts A B b1 b2
 off:last.off=o
 tk:AO s o (Dp last.nd)
 right:C9 last.nd=true
 words:wordsAt s.ws (o/8) (8*Bf (Dp last.nd))=Ea last.nd
 n1:o∉b1
 n2:o∉b2
 n3:o∉AY parts
 d1:∀p∈b1,p∉AY parts
 d2:∀p∈b2,p∉AY parts
 d3:∀p∈b1,p∉b2
 m1:b1.Nodup
 m2:b2.Nodup
 m3:(AY parts).Nodup
 bls:blocks=b1++(o::AY parts)++b2
structure Xi(L:Nat)(s:St)(items:List Kv)(blocks:List Nat)(key:List UInt8)(last:Pl)(rest' q:List UInt8)(rl:Nat)(nl:UInt64)(parts:List Part)(A B:List Kv)(b1 b2:List Nat)(o:Nat):Prop extends OH L s items blocks key last rest' q rl nl parts A B b1 b2 o where
 stop:common last.nd.pre rest'<last.nd.pre.length\/common last.nd.pre rest'=rest'.length\/OL last.nd (rest'.getD (common last.nd.pre rest') 0)=none
def Aax(h:Bz L s){items:List Kv}{blocks:List Nat}{key rest' q:List UInt8}{last:Pl}{rl:Nat}{nl:UInt64}{parts:List Part}{A B:List Kv}{b1 b2:List Nat}(hnd:blocks.Nodup)(S:XP L s 32 (s.ws 9) items blocks 72 (Dn key) last rest' q rl nl parts A B b1 b2):
 ∃o,OH L s items blocks key last rest' q rl nl parts A B b1 b2 o:=by
 obtain⟨o,ho,ht,hr,hw⟩:=IQ h S.rd;have hoff:last.off=o:=S.off.symm.trans ho;have hb:=S.bls;rw [hoff,Cm]at hb;have hnd':=hnd;rw [hb]at hnd';obtain⟨x1,x2,x3⟩:=CE.1 hnd';obtain⟨y1,y2,y3⟩:=CE.1 x1;obtain⟨z1,z2⟩:=Hz.1 y2;exact⟨o,⟨S,hoff,ht,hr,hw,λh=>y3 _ h _ (Bh ..) rfl,λh=>x3 _ Θ _ h rfl,z1,λp hp hk=>y3 _ hp _ (BH _ hk) rfl,λp hp hk=>x3 _ (by simp [hk]) _ hp rfl,λp hp hk=>x3 _ (by simp [hp]) _ hk rfl,y1,x2,z2,hb⟩⟩
def around(h:Bz L s){items:List Kv}{blocks:List Nat}(hn0:s.ws 9≠0)(T:DV s 32 (s.ws 9) items blocks)(hnd:blocks.Nodup)(key:List UInt8)(hk:key.length<=16):
 ∃way last rest' q rl nl parts A B b1 b2 o,FY s key=some (way++[last],rest')/\Xi L s items blocks key last rest' q rl nl parts A B b1 b2 o:=by
 have hlen:=MI key;obtain⟨last,rest',q,rl,nl,parts,A,B,b1,b2,Ahm,hp,S⟩:=iL h (2*key.length+1) 32 (s.ws 9) items blocks (Dn key) 0 72 [] T hnd O O hn0;obtain⟨o,a⟩:=Aax h hnd S.toXP;exact⟨Ahm,last,rest',q,rl,nl,parts,A,B,b1,b2,o,by unfold FY;rw [hp];simp,⟨a,S.stop⟩⟩
variable{items:List Kv}{blocks:List Nat}{key:List UInt8}{last:Pl}{rest' q:List UInt8}{rl:Nat}{nl:UInt64}{parts:List Part}{A B:List Kv}{b1 b2:List Nat}{o:Nat}
def OH.word(ok:Bz L s)(a:OH L s items blocks key last rest' q rl nl parts A B b1 b2 o):∃jw:Nat,last.word=((8*jw:Nat):Int)/\s.ws jw=nl/\(jw<16\/16+s.sh.BM<=jw)/\((q=[]/\jw=9)\/(q≠[]/\∃p c,p∈b1/\AO s p c/\GR p c jw)):=by
 rcases a.spot.wd with⟨h1,h2,h3⟩| ⟨h1,p,c,j,h2,h3,h4,h5,h6⟩
 ·exact⟨9,by rw [h2];rfl,h3.symm,.inl U,.inl ⟨h1,rfl⟩⟩
 ·exact⟨j,h5,h6,.inr (ok.DF (h3.bounds ok).1 h4),.inr ⟨h1,p,c,h2,h3,h4⟩⟩
def OH.other(a:OH L s items blocks key last rest' q rl nl parts A B b1 b2 o)(kv:Kv)(h:kv∈A\/kv∈B):kv.1≠Dn key:=by
 rw [a.spot.cut];rcases h with h| h
 ·exact rO (a.spot.lo kv h rest')
 ·exact λe=>rO (a.spot.hi kv h rest') e.symm
def rQ{items:List Kv}{blocks:List Nat}(h:Ox X L s items)(hn0:s.ws 9≠0)(htk:∀o,(∃d,AO s o d)<->o∈blocks\/X o)(hX:∀o∈blocks,¬X o)(hnd:blocks.Nodup)(a:OH L s items blocks key last rest' q rl nl parts A B b1 b2 o)(hp:last.nd.pre=rest')(value:UInt64):
 QS X s (Qb s last value)/\Ox X L (Qb s last value) (A++TK q (BX {last.nd with val:=value}++Bo last.nd.pre last.nd.labels parts)++B):=by
 have ok:=h.ok;obtain⟨jw,hj1,hj2,hj3,hj4⟩:=a.word ok;have jI:=a.tk.bounds ok;have S:=a.spot;obtain⟨s',hs'⟩:∃s',s'=Qb s last value:=⟨_,rfl⟩;have hw:∀i,s'.ws i=if i=o/8+2 then value else s.ws i:=λi=>by
  rw [hs'];show FN s.ws (last.off.toNat/8+2) value i=_;rw [a.off,Cm];rfl
 have hin:GR o (Dp last.nd) (o/8+2):=⟨O,by
  have:=(Ff (PN last.nd)).2.1;omega⟩
 have hout:=ok.DF jI.1 hin;have ok':Bz L s':=by
  rw [hs'];exact ok.words (λi hi=>by
   show FN s.ws (last.off.toNat/8+2) value (16+i)=_;rw [a.off,Cm];unfold FN;rw [if_neg O])
 have Aok:∀p d,AO s' p d<->AO s p d:=λp d=>by rw [hs'];exact Iff.rfl
 have hkeep:FB s s' (λp=>p≠o):=λp c hp ht=>⟨(Aok p c).2 ht,λj hj=>by
  rw [hw,if_neg (SA ok ht a.tk hp hj hin)]⟩
 have hrd:Fb s' nl=some {last.nd with val:=value}:=by
  refine YK ok' (S.off.trans a.off) ((Aok _ _).2 a.tk) (by rw [vI];exact a.right) ?_;rw [show Dp {last.nd with val:=value}=Dp last.nd from rfl,Adm];refine Eu (by simp [wordsAt,KD]) λt g1 g2=> ?_
  have htl:t<8*Bf (Dp last.nd):=by simpa [wordsAt]using g1
  have hold:s.ws (o/8+t)=(Ea last.nd)[t]'(by rw [KD];exact htl):=by
   have:(wordsAt s.ws (o/8) (8*Bf (Dp last.nd)))[t]? =(Ea last.nd)[t]? :=by rw [a.words]
   unfold wordsAt at this;rw [BZ,Ua htl,Af (by rw [KD];exact htl)]at this;simpa using this
  rw [FC,hw,KG];by_cases e:t=2
  ·rw [if_pos O,if_pos e.symm]
  ·rw [if_neg O,if_neg (λh=>e h.symm)];exact hold
 have T:=DV.mk (s:=s') rl nl {last.nd with val:=value} parts hrd S.pre S.kid S.len (λi h1 h2=>(S.sub i h1 h2).keep ok ok' hkeep (λp hp e=>a.n3 (e▸TY h2 hp)));rw [S.off,a.off,Cm]at T;have T2:=S.swap s' nl _ _ ok' (λe=>by
  rcases hj4 with⟨h1,h2⟩| ⟨h1,h2⟩
  ·rw [h2]at hj2;exact hn0 (hj2.trans e)
  ·have:=S.rd;rw [e]at this;obtain⟨o',ho',ht',_⟩:=IQ ok this;have:=(ht'.bounds ok).1;have hz:Bj 0=0:=by decide
   rw [hz]at ho';have:=ok.sh.Le;omega) T (λp c hp ht=>by
  have hpo:p≠o:=λe=>by subst e;exact hp.elim a.n1 a.n2
  obtain⟨u1,u2⟩:=hkeep p c hpo ht;refine⟨u1,λj hj=> ?_⟩;rw [u2 j hj];split
  ·rename_i e;rw [hj1]at e;rw [<-hj2];congr 1;omega
  ·rfl)
 have h9:s'.ws 9=s.ws 9:=by rw [hw,if_neg O]
 have hname:(if q=[]then nl else s.ws 9)=s.ws 9:=by
  split
  ·rename_i e;rcases hj4 with⟨_,h2⟩| ⟨h1,_⟩
   ·rw [<-hj2,h2]
   ·exact absurd e h1
  ·rfl
 rw [hname]at T2;have hkey:Dn key=q++last.nd.pre:=by rw [hp];exact S.cut
 refine⟨⟨by rfl,λj hj _=>by rw [<-hs',hw,if_neg O],λp c hp ht=>by rw [<-hs'];exact hkeep p c (λe=>hX o (by rw [a.bls];simp) (e▸hp)) ht⟩,?_⟩;refine⟨by rw [<-hs'];exact ok',λp d hh=>h.nh p d ((PQ (by rfl) (by rfl) p d).1 hh),.inr ⟨blocks,by rw [<-hs',h9];exact hn0,?_,hnd,hX,λp=> ?_⟩,?_⟩
 ·rw [<-hs',h9,a.bls];exact T2
 ·rw [<-hs',show(∃d,AO s' p d)<->∃d,AO s p d from exists_congr (Aok p)];exact htk p
 ·intro kv hkv;rw [AX]at hkv;rcases AL.1 hkv with h1| h1
  ·exact h.even kv (by rw [S.its];simp [h1])
  ·rcases AL.1 h1 with h1| h1
   ·obtain⟨k,h2,h3⟩:=Es.1 h1;rcases AL.1 h2 with h4| h4
    ·obtain⟨e,_⟩:=FT h4;rw [h3];have e1:k=last.nd.pre:=congrArg Prod.fst e;rw [e1,<-hkey];exact Xh key
    ·refine h.even kv ?_;rw [S.its,AX];exact Bl _ (BG _ (Es.2 ⟨k,Bl _ h4,h3⟩))
   ·exact h.even kv (by rw [S.its];simp [h1])
def Adn{items:List Kv}{blocks:List Nat}(h:Ox X L s items)(hn0:s.ws 9≠0)(htk:∀o,(∃d,AO s o d)<->o∈blocks\/X o)(hX:∀o∈blocks,¬X o)(hnd:blocks.Nodup)(a:Xi L s items blocks key last rest' q rl nl parts A B b1 b2 o)(hp:last.nd.pre=rest')(value:UInt64)(hv:value≠0):
 Aaw X L s items (Dn key) value (Qb s last value,0):=by
 have S:=a.spot;have hkey:Dn key=q++last.nd.pre:=by rw [hp];exact S.cut
 obtain⟨hK,hV⟩:=rQ h hn0 htk hX hnd a.toOH hp value;refine⟨hK,?_⟩;right;refine⟨rfl,_,hV,?_⟩;intro kv;have Ov:∀k,(k,kv.2)∈Bo last.nd.pre last.nd.labels parts->q++k≠Dn key:=λk hk e=>by
  obtain⟨i,h1,h2,kv',_,e2⟩:=Fg hk;rw [hkey]at e;have:=Ey e;have e3:k=last.nd.pre++last.nd.labels[i]::kv'.1:=congrArg Prod.fst e2;rw [e3]at this;have:=congrArg List.length this;simp at this
 constructor
 ·intro hkv;rw [AX]at hkv;rcases AL.1 hkv with h1| h1
  ·exact .inr ⟨by rw [S.its];simp [h1],a.other kv (.inl h1)⟩
  ·rcases AL.1 h1 with h1| h1
   ·obtain⟨k,h2,h3⟩:=Es.1 h1;rcases AL.1 h2 with h4| h4
    ·obtain⟨e,_⟩:=FT h4;left;have e1:k=last.nd.pre:=congrArg Prod.fst e;have e2:kv.2=value:=congrArg Prod.snd e;refine Prod.ext ?_ e2;rw [h3,e1,hkey]
    ·refine .inr ⟨?_,by rw [h3];exact Ov k h4⟩;rw [S.its,AX];exact Bl _ (BG _ (Es.2 ⟨k,Bl _ h4,h3⟩))
   ·exact .inr ⟨by rw [S.its];simp [h1],a.other kv (.inr h1)⟩
 ·rintro(rfl| ⟨h1,h2⟩)
  ·rw [AX];refine Bl _ (BG _ (Es.2 ⟨last.nd.pre,BG _ ?_,hkey⟩));unfold BX;rw [if_pos hv];exact BD.2 rfl
  ·rw [S.its,AX]at h1;rw [AX];rcases AL.1 h1 with h3| h3
   ·exact BG _ h3
   ·rcases AL.1 h3 with h3| h3
    ·obtain⟨k,h4,h5⟩:=Es.1 h3;rcases AL.1 h4 with h6| h6
     ·obtain⟨e,_⟩:=FT h6;have e1:k=last.nd.pre:=congrArg Prod.fst e;exact absurd (by rw [h5,e1,hkey]) h2
     ·exact Bl _ (BG _ (Es.2 ⟨k,Bl _ h6,h5⟩))
    ·exact Bl _ (Bl _ h3)
end
section
variable{X:Nat->Prop}{L:Nat}{s:St}{items:List Kv}{blocks:List Nat}{key:List UInt8}{last:Pl}{rest' q:List UInt8}{rl:Nat}{nl:UInt64}{parts:List Part}{A B:List Kv}{b1 b2:List Nat}{o:Nat}
def iO (h : Ox X L s items) (hn0 : s.ws 9 ≠ 0) (htk : ∀ o, (∃ d, AO s o d) <-> o ∈ blocks \/ X o) (hX : ∀ o ∈ blocks, ¬ X o) (a : OH L s items blocks key last rest' q rl nl parts A B b1 b2 o) {j : Jb} {C : List Nat} (g : Grown L s j C) {name : UInt64} (hn : name ≠ 0) {Xd : List Kv} {UC : List Nat}
    (T : DV j.s rl name Xd UC) {K D dl : List Nat} (hperm : (AY parts).Perm (K ++ D)) (hpm : UC.Perm (C ++ K)) (hdl : dl.Perm (D ++ [o])) (hev : ∀ kv ∈ Xd, Jv (q ++ kv.1) = true) :
    ∃ s2, H7 j 0 last.word name (dl.map Cf) = (s2, 0) /\ QS X s s2 /\ Ox X L s2 (A ++ TK q Xd ++ B) := by
  have ok := h.ok
  obtain ⟨jw, hj1, hj2, hj3, hj4⟩ := a.word ok
  have S := a.spot
  obtain ⟨s1, hs1⟩ : ∃ s1, s1 = ({ j.s with ws := FN j.s.ws (last.word.toNat / 8) name } : St) := ⟨_, rfl⟩
  have dU : last.word.toNat / 8 = jw := by rw [hj1, Cm]; omega
  have hw1 : ∀ i, s1.ws i = if i = jw then name else j.s.ws i := λi => by rw [hs1, <- dU]; rfl
  have Aol := g.sh
  have ok1 : Bz L s1 := by
    rw [hs1]
    refine g.ok.words (λi hi => ?_)
    show FN j.s.ws (last.word.toNat / 8) name (16 + i) = _
    rw [dU]
    unfold FN
    rw [if_neg]
    rw [Aol] at hi
    omega
  have TJ : ∀ p d, AO s1 p d <-> AO j.s p d := λp d => by rw [hs1]; exact Iff.rfl
  have hCs : ∀ p ∈ C, ∀ d, ¬ AO s p d := g.new
  have hbt : ∀ p ∈ blocks, ∃ d, AO s p d := λp hp => (htk p).2 (.inl hp)
  have hoC : o ∉ C := λhc => hCs o hc _ a.tk
  have hKD := hperm.nodup_iff.1 a.m3
  obtain ⟨mK, mD, mKD⟩ := CE.1 hKD
  have hDk : ∀ p ∈ D, p ∈ AY parts := λp hp => hperm.mem_iff.2 (Bl _ hp)
  have hKk : ∀ p ∈ K, p ∈ AY parts := λp hp => hperm.mem_iff.2 (BG _ hp)
  have hkb : ∀ p ∈ AY parts, p ∈ blocks := λp hp => by rw [a.bls]; simp [hp]
  have hmd : ∀ p, p ∈ dl <-> p ∈ D \/ p = o := λp => by rw [hdl.mem_iff]; simp
  have hdn : dl.Nodup := hdl.nodup_iff.2 (CE.2 ⟨mD, by simp, λx hx y hy e => by rw [BD] at hy; exact a.n3 (hy ▸ e ▸ hDk x hx)⟩)
  have hdt : ∀ p ∈ dl, ∃ d, AO s1 p d := λp hp => by
    have hs : ∃ d, AO s p d := ((hmd p).1 hp).elim (λhd => hbt p (hkb p (hDk p hd))) (λe => ⟨_, e ▸ a.tk⟩)
    obtain ⟨d, hd⟩ := hs
    exact ⟨d, (TJ p d).2 (g.keep p d trivial hd).1⟩
  obtain ⟨s2, ed, ok2, nN, hd2, ws2, lD⟩ := VE dl ok1 hdn hdt
  have ee := aZ dl ok1 hdn hdt
  rw [ed] at ee
  have aY : s1.sh = s.sh := by rw [hs1]; exact Aol
  refine ⟨s2, by unfold H7; rw [if_neg Θ, <- hs1]; exact ee, ?_⟩
  have hw2 : ∀ i, (i < 16 \/ 16 + s.sh.BM <= i) -> s2.ws i = if i = jw then name else j.s.ws i := λi hi => by
    rw [ws2 i (by rw [aY]; exact hi), hw1]
  have hbd : ∀ p ∈ UC, p ∉ dl := λp hb hd => by
    rcases (hmd p).1 hd with h1 | h1
    · rcases AL.1 (hpm.mem_iff.1 hb) with h2 | h2
      · obtain ⟨d, hd⟩ := hbt p (hkb p (hDk p h1))
        exact hCs p h2 d hd
      · exact mKD p h2 p h1 rfl
    · subst h1
      rcases AL.1 (hpm.mem_iff.1 hb) with h2 | h2
      · exact hoC h2
      · exact a.n3 (hKk _ h2)
  have hbx : ∀ p, p ∈ b1 \/ p ∈ b2 -> p ∉ dl := λp hp hd => by
    rcases (hmd p).1 hd with h1 | h1
    · exact hp.elim (λh => a.d1 p h (hDk p h1)) (λh => a.d2 p h (hDk p h1))
    · subst h1; exact hp.elim a.n1 a.n2
  -- the new tree stands behind the word and the Aw9
  have Aom : ∀ p c, p ∈ UC -> AO j.s p c -> AO s2 p c /\ ∀ i, GR p c i -> s2.ws i = j.s.ws i := λp c hp ht => by
    refine ⟨(lD p c).2 ⟨(TJ p c).2 ht, hbd p hp⟩, λi hi => ?_⟩
    have Ado := g.ok.DF (ht.bounds g.ok).1 hi
    rw [Aol] at Ado
    rw [hw2 i (.inr Ado), if_neg]
    intro e
    subst e
    rcases hj4 with ⟨_, h2⟩ | ⟨_, pp, cc, h2, h3, h4⟩
    · omega
    · obtain ⟨h3', _⟩ := g.keep pp cc trivial h3
      refine SA g.ok ht h3' (λe => ?_) hi h4 rfl
      subst e
      rcases AL.1 (hpm.mem_iff.1 hp) with h5 | h5
      · exact hCs p h5 cc h3
      · exact a.d1 p h2 (hKk p h5)
  have T2 : DV s2 rl name Xd UC := T.keep g.ok ok2 (B := λp => p ∈ UC) Aom (λ_ h => h)
  have T3 := S.swap s2 name Xd UC ok2 hn T2 (λp c hp ht => by
    obtain ⟨u1, u2⟩ := g.keep p c trivial ht
    refine ⟨(lD p c).2 ⟨(TJ p c).2 u1, hbx p hp⟩, λi hi => ?_⟩
    have Ado := ok.DF (ht.bounds ok).1 hi
    rw [hw2 i (.inr Ado), hj1]
    by_cases e : i = jw
    · rw [if_pos e, if_pos O]
    · rw [if_neg e, if_neg O, u2 i hi])
  have h9 : s2.ws 9 = if q = [] then name else s.ws 9 := by
    rw [hw2 9 (.inl U)]
    rcases hj4 with ⟨h1, h2⟩ | ⟨h1, pp, cc, h2, h3, h4⟩
    · rw [if_pos h2.symm, if_pos h1]
    · have := ok.DF (h3.bounds ok).1 h4
      rw [if_neg O, if_neg h1, g.low 9 U]
  rw [<- h9] at T3
  have h90 : s2.ws 9 ≠ 0 := by
    rw [h9]
    split
    · exact hn
    · exact hn0
  have hdb : ∀ p ∈ dl, p ∈ blocks := λp hp => ((hmd p).1 hp).elim (λh => hkb p (hDk p h)) (λe => by rw [e, a.bls]; simp)
  have hXk : QS X s s2 := ⟨nN.trans aY, λi hi hi9 => by
      rw [hw2 i (.inl hi), if_neg, g.low i hi]
      rcases hj4 with ⟨_, h2⟩ | ⟨_, pp, cc, h2, h3, h4⟩
      · omega
      · have := ok.DF (h3.bounds ok).1 h4
        omega, λp c hp ht => by
      obtain ⟨u1, u2⟩ := g.keep p c trivial ht
      refine ⟨(lD p c).2 ⟨(TJ p c).2 u1, λhd => hX p (hdb p hd) hp⟩, λi hi => ?_⟩
      have Ado := ok.DF (ht.bounds ok).1 hi
      rw [hw2 i (.inr Ado), if_neg, u2 i hi]
      intro e
      subst e
      rcases hj4 with ⟨_, h2⟩ | ⟨_, pp, cc, h2, h3, h4⟩
      · omega
      · refine SA ok ht h3 (λe => ?_) hi h4 rfl
        subst e
        exact hX p (by rw [a.bls]; simp [h2]) hp⟩
  refine ⟨hXk, ok2, λp d hh => g.nh p d ((PQ (by rw [hd2, hs1]) (by rw [nN, hs1]) p d).1 hh), .inr ⟨b1 ++ UC ++ b2, h90, T3, ?_, λp hp hpX => ?_, λp => ?_⟩, ?_⟩
  · have hp2 : (b1 ++ UC ++ b2).Perm (b1 ++ (C ++ K) ++ b2) := List.Perm.append_right _ (List.Perm.append_left _ hpm)
    rw [hp2.nodup_iff]
    have hC1 : ∀ p ∈ C, p ∉ blocks := λp hp hb => by
      obtain ⟨d, hd⟩ := hbt p hb
      exact hCs p hp d hd
    rw [a.bls] at hC1
    refine CE.2 ⟨CE.2 ⟨a.m1, CE.2 ⟨g.xQ, mK, λx hx y hy e => ?_⟩, λx hx y hy e => ?_⟩, a.m2, λx hx y hy e => ?_⟩
    · subst e
      exact hC1 x hx (by simp [hKk x hy])
    · subst e
      rcases AL.1 hy with h1 | h1
      · exact hC1 x h1 (by simp [hx])
      · exact a.d1 x hx (hKk x h1)
    · subst e
      rcases AL.1 hx with h1 | h1
      · exact a.d3 x h1 hy
      · rcases AL.1 h1 with h1 | h1
        · exact hC1 x h1 (by simp [hy])
        · exact a.d2 x hy (hKk x h1)
  · rcases AL.1 hp with h1 | h1
    · rcases AL.1 h1 with h1 | h1
      · exact hX p (by rw [a.bls]; simp [h1]) hpX
      · rcases AL.1 (hpm.mem_iff.1 h1) with h2 | h2
        · obtain ⟨d, hd⟩ := (htk p).2 (.inr hpX)
          exact hCs p h2 d hd
        · exact hX p (hkb p (hKk p h2)) hpX
    · exact hX p (by rw [a.bls]; simp [h1]) hpX
  · have h1 : (∃ d, AO s2 p d) <-> (∃ d, AO j.s p d) /\ p ∉ dl := by
      constructor
      · rintro ⟨d, hd⟩
        obtain ⟨h1, h2⟩ := (lD p d).1 hd
        exact ⟨⟨d, (TJ p d).1 h1⟩, h2⟩
      · rintro ⟨⟨d, hd⟩, h2⟩
        exact ⟨d, (lD p d).2 ⟨(TJ p d).2 hd, h2⟩⟩
    rw [h1, g.tk p, htk p, hmd p, a.bls]
    simp only [AL, CJ, hpm.mem_iff, hperm.mem_iff]
    constructor
    · rintro ⟨h1 | h1, h2⟩
      · rcases h1 with ((h1 | h1 | h1 | h1) | h1) | h1
        · exact .inl (.inl (.inl h1))
        · exact absurd (.inr h1) h2
        · exact .inl (.inl (.inr (.inr h1)))
        · exact absurd (.inl h1) h2
        · exact .inl (.inr h1)
        · exact .inr h1
      · exact .inl (.inl (.inr (.inl h1)))
    · have hno : ∀ p, p ∈ b1 \/ p ∈ b2 \/ p ∈ C \/ p ∈ K -> ¬ (p ∈ D \/ p = o) := λp hp hd => by
        have hd' := (hmd p).2 hd
        rcases hp with h | h | h | h
        · exact hbx p (.inl h) hd'
        · exact hbx p (.inr h) hd'
        · exact hbd p (hpm.mem_iff.2 (BG _ h)) hd'
        · exact hbd p (hpm.mem_iff.2 (Bl _ h)) hd'
      rintro (((h1 | h1 | h1) | h1) | h1)
      · exact ⟨.inl (.inl (.inl (.inl h1))), hno p (.inl h1)⟩
      · exact ⟨.inr h1, hno p (.inr (.inr (.inl h1)))⟩
      · exact ⟨.inl (.inl (.inl (.inr (.inr (.inl h1))))), hno p (.inr (.inr (.inr h1)))⟩
      · exact ⟨.inl (.inl (.inr h1)), hno p (.inr (.inl h1))⟩
      · exact ⟨.inl (.inr h1), λhd => hX p (hdb p ((hmd p).2 hd)) h1⟩
  · intro kv hkv
    rw [AX] at hkv
    rcases AL.1 hkv with h1 | h1
    · exact h.even kv (by rw [S.its]; simp [h1])
    · rcases AL.1 h1 with h1 | h1
      · obtain ⟨k, h2, h3⟩ := Es.1 h1
        rw [h3]
        exact hev _ h2
      · exact h.even kv (by rw [S.its]; simp [h1])
def Xi.below(a:Xi L s items blocks key last rest' q rl nl parts A B b1 b2 o)(hp:last.nd.pre≠rest'):∀kv,kv∈BX last.nd++Bo last.nd.pre last.nd.labels parts->kv.1≠rest':=λkv hkv e=>by
 rcases AL.1 hkv with h1| h1
 ·obtain⟨rfl,_⟩:=FT h1;exact hp e
 ·obtain⟨i,i1,i2,kv',_,rfl⟩:=Fg h1;simp only at e;have hc:common last.nd.pre rest'=last.nd.pre.length:=by rw [<-e,TQ]
  have:Pn last.nd.labels (rest'.getD (common last.nd.pre rest') 0)=false:=by
   rcases a.stop with h1| h1| h1
   ·omega
   ·exact absurd (RU _ _ hc h1) hp
   ·exact iJ a.right h1
  rw [hc,<-e,Bi,List.getElem?_append_right (Ad _),Nat.sub_self]at this;exact Sj _ _ this i i1 rfl
def Ak2(h:Ox X L s items)(hn0:s.ws 9≠0)(htk:∀o,(∃d,AO s o d)<->o∈blocks\/X o)(hX:∀o∈blocks,¬X o)(_:blocks.Nodup)(Asx:key.length<=16)(a:Xi L s items blocks key last rest' q rl nl parts A B b1 b2 o)(hp:last.nd.pre≠rest')(value:UInt64)(hv:value≠0):
 Aaw X L s items (Dn key) value (match X5 ⟨s,[]⟩ last.nd rest' value with| (j,name,e)=>H7 j e last.word name [last.off]):=by
 have ok:=h.ok;have S:=a.spot;have hlen:=MI key;have Axa:q.length+rest'.length=(Dn key).length:=by rw [S.cut,AQ]
 have Ud:rest'.all DK=true:=by
  have:=YX key;rw [S.cut,List.all_append,Bool.and_eq_true]at this;exact this.2
 have hno:common last.nd.pre rest'=last.nd.pre.length->Pn last.nd.labels (rest'.getD (common last.nd.pre rest') 0)=false:=λhc=>by
  rcases a.stop with h1| h1| h1
  ·omega
  ·exfalso;refine hp ?_;exact RU _ _ hc h1
  ·exact iJ a.right h1
 have hG:=Akz ok h.nh a.right S.len S.pre S.kid S.sub (Ω S.lens) Ud hv hp hno;generalize X5 ⟨s,[]⟩ last.nd rest' value=res at hG;obtain⟨j,name,e⟩:=res;simp only;rcases hG with⟨e1,B',g⟩| ⟨e1,C,Xd,UC,g,hn,T,hpm,hmem⟩
 ·simp only at e1 g;subst e1;simp only [H7];rw [if_pos U];obtain⟨s2,e2,ok2,nh2,lD,kp2,lo2,nN⟩:=Aav ok g;rw [e2];refine⟨⟨nN,λj hj _=>lo2 j hj,λo c _ ht=>kp2 o c trivial ht⟩,?_⟩;refine .inl ⟨rfl,h.same ok2 nh2 lD kp2 (lo2 9 U),λkv hkv e=> ?_⟩;rw [S.its,AX]at hkv;rcases AL.1 hkv with g1| g1
  ·exact a.other kv (.inl g1) e
  ·rcases AL.1 g1 with g1| g1
   ·obtain⟨k,g2,g3⟩:=Es.1 g1;rw [g3,S.cut]at e;exact a.below hp _ g2 (Ey e)
   ·exact a.other kv (.inr g1) e
 ·simp only at e1 g hn T;subst e1;have hkey:Dn key=q++rest':=S.cut;have hin:∀k v,(k,v)∈BX last.nd++Bo last.nd.pre last.nd.labels parts->(q++k,v)∈items:=λk v h4=>by
   rw [S.its,AX];exact Bl _ (BG _ (Es.2 ⟨k,h4,rfl⟩))
  obtain⟨s2,e2,kx2,dX⟩:=iO h hn0 htk hX a.toOH g hn T (K:=AY parts) (D:=[]) (dl:=[o]) Θ hpm Θ (λkv hkv=>by
   obtain⟨k,v⟩:=kv;rcases(hmem _).1 hkv with h4| h4
   ·exact h.even _ (hin k v h4)
   ·have e1:k=rest':=congrArg Prod.fst h4;show Jv (q++k)=true;rw [e1,<-hkey];exact Xh key)
  rw [a.off,show [(o:Int)]=[o].map Cf from rfl,e2];refine⟨kx2,?_⟩;right;refine⟨rfl,_,dX,?_⟩;intro kv;constructor
  ·intro hkv;rw [AX]at hkv;rcases AL.1 hkv with h1| h1
   ·exact .inr ⟨by rw [S.its];simp [h1],a.other kv (.inl h1)⟩
   ·rcases AL.1 h1 with h1| h1
    ·obtain⟨k,h2,h3⟩:=Es.1 h1;rcases(hmem _).1 h2 with h4| h4
     ·refine .inr ⟨?_,?_⟩
      ·have:=hin k kv.2 h4
       rwa [<-h3]at this
      ·rw [h3,hkey];intro e;exact a.below hp _ h4 (Ey e)
     ·left;have e1:k=rest':=congrArg Prod.fst h4;have e2:kv.2=value:=congrArg Prod.snd h4;exact Prod.ext (by rw [h3,e1,hkey]) e2
    ·exact .inr ⟨by rw [S.its];simp [h1],a.other kv (.inr h1)⟩
  ·rintro(rfl| ⟨h1,h2⟩)
   ·rw [AX];exact Bl _ (BG _ (Es.2 ⟨rest',(hmem _).2 (.inr rfl),hkey⟩))
   ·rw [S.its,AX]at h1;rw [AX];rcases AL.1 h1 with h3| h3
    ·exact BG _ h3
    ·rcases AL.1 h3 with h3| h3
     ·obtain⟨k,h4,h5⟩:=Es.1 h3;exact Bl _ (BG _ (Es.2 ⟨k,(hmem _).2 (.inl h4),h5⟩))
     ·exact Bl _ (Bl _ h3)
def lF(h:Ox X L s items)(key:List UInt8)(hk:key.length<=16)(value:UInt64)(hv:value≠0):Aaw X L s items (Dn key) value (KJ s key value):=by
 by_cases h0:s.ws 9=0
 ·exact Adl h h0 key hk value hv
 ·rcases h.tree with⟨h1,_⟩| ⟨blocks,h1,T,hnd,hX,htk⟩
  ·exact absurd h1 h0
  ·obtain⟨way,last,rest',q,rl,nl,parts,A,B,b1,b2,o,hp,a⟩:=around h.ok h1 T hnd key hk;unfold KJ;rw [if_neg O,if_neg hv,hp];have hgl:(way++[last]).getLast? =some last:=by simp
   simp only [CZ,hgl];by_cases hpr:last.nd.pre=rest'
   ·rw [if_pos hpr];exact Adn h h1 htk hX hnd a hpr value hv
   ·rw [if_neg hpr];exact Ak2 h h1 htk hX hnd hk a hpr value hv
def PR(h:Ox X L s items):∃met:List Nat,DJ s=some (items.map (λkv=>(pairs kv.1,kv.2)),met.map Cf)/\met.Nodup/\(∀o∈met,¬X o)/\∀o,(∃d,AO s o d)<->o∈met\/X o:=by
 rcases h.tree with⟨h1,h2,h3⟩| ⟨blocks,h1,T,hnd,hX,htk⟩
 ·refine⟨[],?_,List.nodup_nil,(λ_ h=>nomatch h),λo=>by simp [h3 o]⟩;unfold DJ;rw [if_pos h1,h2];rfl
 ·refine⟨blocks,?_,hnd,hX,htk⟩;unfold DJ;rw [if_neg h1];have:=T.Aoh h.ok 34 [] [] [] U U hnd (λ_ _ h=>by cases h) (λkv hkv=>h.even kv hkv);simpa using this
end
section
variable{L:Nat}{s:St}
def Oj:∀(f:Nat)(name:UInt64)(rest:List UInt8)(label:UInt8)(word:Int)(way:List Pl),Ez s f name rest label word way=(Ez s f name rest label word []).map λp=>(way++p.1,p.2)
 | 0,_,_,_,_,way=>by simp [Ez]
 | f+1,name,rest,label,word,way=>by
   rw [Ez,Ez];split
   ·simp
   ·split
    ·rfl
    ·rename_i x _;split
     ·simp
     ·split
      ·simp
      ·rename_i kid number _;rw [Oj f kid _ _ _ (way++_),Oj f kid _ _ _ ([]++_)];cases Ez s f kid (rest.drop (common x.pre rest+1)) (rest.getD (common x.pre rest) 0) (Bj name+8*number) []<;>simp
def iP{f:Nat}{name:UInt64}{rest:List UInt8}{label:UInt8}{word:Int}{W:List Pl}{rf:List UInt8}(h:Ez s (f+1) name rest label word []=some (W,rf))(hn:name≠0):∃x W',W=x::W'/\x.label=label/\x.word=word:=by
 rw [Ez,if_neg hn]at h;split at h
 ·cases h
 ·rename_i x _;split at h
  ·injection h with h;injection h with h1 h2
   exact⟨_,_,h1.symm,rfl,rfl⟩
  ·split at h
   ·injection h with h;injection h with h1 h2
    exact⟨_,_,h1.symm,rfl,rfl⟩
   ·rw [Oj]at h;obtain⟨p,_,h2⟩:=PU.1 h;injection h2 with h3 h4
    exact⟨_,_,h3.symm,rfl,rfl⟩
def Aay(ok:Bz L s):∀(m f r:Nat)(name:UInt64)(items:List Kv)(blocks:List Nat)(rest:List UInt8)(label:UInt8)(word:Int),DV s r name items blocks->blocks.Nodup->rest.length<f->rest.length<=r->name≠0->
 ∀(W:List Pl)(rf:List UInt8),Ez s f name rest label word []=some (W,rf)->m+1<W.length->
 ∃up rest' q rl nl parts A B b1 b2 i f' w',W[m]? =some up/\XP L s r name items blocks word rest up rest' q rl nl parts A B b1 b2/\∃(h1:i<up.nd.kids.length)(h2:i<up.nd.labels.length),
  up.nd.pre++up.nd.labels[i]::rest'.drop (up.nd.pre.length+1)=rest'/\(rest'.drop (up.nd.pre.length+1)).length<f'/\up.nd.kids[i]≠0/\Ez s f' up.nd.kids[i] (rest'.drop (up.nd.pre.length+1)) up.nd.labels[i] w' []=some (W.drop (m+1),rf)
 | m,0,_,_,_,_,_,_,_,_,_,h,_,_,_,_,_,_=>absurd h O
 | m,f+1,r,name,items,blocks,rest,label,word,ht,hnd,hf,hrl,hn0,W,rf,hW,hm=>by
   cases ht with
   | mk _ _ nd parts hrd hpre Ov hlen hk=>
     obtain⟨o,ho,htk,hr,hw⟩:=IQ ok hrd;rw [Ez,if_neg hn0,hrd]at hW
     dsimp only at hW
     by_cases h1:common nd.pre rest<nd.pre.length\/common nd.pre rest=rest.length
     ·rw [if_pos h1]at hW;injection hW with hW;injection hW with hW _
      rw [<-hW]at hm;simp at hm
     ·rw [if_neg h1]at hW;cases hkp:OL nd (rest.getD (common nd.pre rest) 0)with
      | none=>
        rw [hkp]at hW;injection hW with hW;injection hW with hW _
        rw [<-hW]at hm;simp at hm
      | some kn=>
        obtain⟨kid,number⟩:=kn;obtain⟨hc,hlt,i,hi1,hi2,rfl,rfl,hlab,hcut⟩:=Xg hr h1 hkp;rw [hkp]at hW;simp only at hW;rw [hc,<-hlab,Oj]at hW;obtain⟨p,hp,h2⟩:=PU.1 hW;obtain⟨W2,r2⟩:=p;injection h2 with h3 h4
        simp only at h3 h4;subst h4;subst h3;have hi3:i<parts.length:=O
        have hkr:=Ov (λe=>by rw [e]at hi1;simp at hi1);have hk0:nd.kids[i]≠0:=λe=>((Bq nd).1 hr).2.2.2.2.2 i hi1 (by rw [e];rfl)
        have dW:=(Hz.1 hnd).2;rw [KR parts i hi3]at dW;have n4:=(CE.1 (CE.1 dW).2.1).1
        match m,hm with
        | 0,hm=>exact⟨⟨nd,Bj name,label,word⟩,rest,[],r,name,parts,[],[],[],[],i,f,_,by simp,Xf hrd hpre Ov hlen hk,hi1,hi2,hcut,by rw [AV];show rest.length- (nd.pre.length+1)<f;omega,hk0,by simpa using hp⟩
        | m+1,hm=>
          obtain⟨up,rest',q,rl,nl,Xe,A,B,b1,b2,i',f',w',e1,S,g1,g2,g3,g4,g5,g6⟩:=Aay ok m f (r-nd.pre.length-1) nd.kids[i] parts[i].items parts[i].blocks (rest.drop (nd.pre.length+1)) nd.labels[i] (Bj name+8*(OY nd i:Nat)) (hk i hi1 hi3) n4 (by rw [AV];omega) (by rw [AV];omega) hk0 W2 r2 hp (by simpa using hm);exact⟨up,rest',_,rl,nl,Xe,_,_,_,_,i',f',w',by simpa using e1,iK ok ho htk hr hw hpre hlen hk hnd hi1 hi2 hi3 hkr hcut S,g1,g2,g3,g4,g5,by simpa using g6⟩
def Xj (ok : Bz L s) : ∀ (f r : Nat) (name : UInt64) (items : List Kv) (blocks : List Nat) (rest : List UInt8) (label : UInt8) (word : Int), DV s r name items blocks -> rest.length < f -> name ≠ 0 ->
    ∀ (W : List Pl) (rf : List UInt8) (last : Pl), Ez s f name rest label word [] = some (W, rf) -> CZ W rf = some last -> last.nd.kids.length = 0 -> last.nd.val ≠ 0 ->
    (∀ i up, i + 1 < W.length -> W[i]? = some up -> up.nd.val = 0 /\ up.nd.kids.length = 1) -> items = [(rest, last.nd.val)] /\ blocks.map Cf = W.map (·.off)
  | 0, _, _, _, _, _, _, _, _, h, _, _, _, _, _, _, _, _, _ => absurd h O
  | f + 1, r, name, items, blocks, rest, label, word, ht, hf, hn0, W, rf, last, hW, hst, hk0, hv0, hup => by
    cases ht with
    | mk _ _ nd parts hrd hpre Ov hlen hk =>
      obtain ⟨o, ho, htk, hr, hw⟩ := IQ ok hrd
      rw [Ez, if_neg hn0, hrd] at hW
      dsimp only at hW
      have hoff : Cf (Bj name).toNat = Bj name := by rw [ho, Cm]; rfl
      have one : [(⟨nd, Bj name, label, word⟩ : Pl)] = W -> rest = rf -> BX nd ++ Bo nd.pre nd.labels parts = [(rest, last.nd.val)] /\ ((Bj name).toNat :: AY parts).map Cf = W.map (·.off) := λe1 e2 => by
        subst e1
        subst e2
        unfold CZ at hst
        simp only [List.getLast?_singleton] at hst
        split at hst
        · rename_i hpr
          injection hst with hst
          subst hst
          simp only at hk0 hv0 hpr ⊢
          have hp0 : parts = [] := List.length_eq_zero_iff.1 O
          subst hp0
          unfold BX
          rw [if_pos hv0, hpr]
          have : Bo rest nd.labels [] = [] := by cases nd.labels <;> rfl
          rw [this]
          exact ⟨rfl, by rw [Cb, hoff]; rfl⟩
        · cases hst
      by_cases h1 : common nd.pre rest < nd.pre.length \/ common nd.pre rest = rest.length
      · rw [if_pos h1] at hW
        injection hW with hW; injection hW with e1 e2
        exact one (by simpa using e1) e2
      · rw [if_neg h1] at hW
        cases hkp : OL nd (rest.getD (common nd.pre rest) 0) with
        | none =>
          rw [hkp] at hW
          injection hW with hW; injection hW with e1 e2
          exact one (by simpa using e1) e2
        | some kn =>
          obtain ⟨kid, number⟩ := kn
          obtain ⟨hc, hlt, i, hi1, hi2, rfl, rfl, hlab, hcut⟩ := Xg hr h1 hkp
          rw [hkp] at hW
          simp only at hW
          rw [hc, <- hlab, Oj] at hW
          obtain ⟨p, hp, h2⟩ := PU.1 hW
          obtain ⟨W2, r2⟩ := p
          injection h2 with h3 h4
          simp only at h3 h4
          subst h4
          subst h3
          have hk1 : nd.kids[i] ≠ 0 := λe => ((Bq nd).1 hr).2.2.2.2.2 i hi1 (by rw [e]; rfl)
          obtain ⟨f', rfl⟩ : ∃ f', f = f' + 1 := ⟨f - 1, O⟩
          obtain ⟨x, W3, rfl, _, _⟩ := iP hp hk1
          obtain ⟨hv, hl1⟩ := hup 0 ⟨nd, Bj name, label, word⟩ Θ Θ
          simp only at hv hl1
          obtain rfl : i = 0 := O
          have hll : nd.labels.length = 1 := by have := ((Bq nd).1 hr).2.2.1; omega
          obtain ⟨p, hp0⟩ : ∃ p, parts = [p] := nR.1 O
          subst hp0
          obtain ⟨lb, hlb⟩ : ∃ lb, nd.labels = [lb] := nR.1 hll
          have hst2 : CZ (x :: W3) r2 = some last := by
            unfold CZ at hst ⊢
            simpa using hst
          have ih := Xj ok (f' + 1) (r - nd.pre.length - 1) nd.kids[0] p.items p.blocks (rest.drop (nd.pre.length + 1)) nd.labels[0] _ (hk 0 hi1 Θ) (by rw [AV]; omega) hk1 (x :: W3) r2 last hp hst2 hk0 hv0 (λt up ht hup' => hup (t + 1) up (by simpa using ht) (by simpa using hup'))
          refine ⟨?_, ?_⟩
          · have hcut' : nd.pre ++ lb :: rest.drop (nd.pre.length + 1) = rest := by
              have : nd.labels[0] = lb := by simp [hlb]
              rw [this] at hcut; exact hcut
            rw [hlb]
            unfold BX
            rw [if_neg (by simp [hv])]
            simp only [Bo, EM, df, ih.1, EO, Cb, Gv]
            rw [hcut']
          · simp only [AY, Cb, Gv, List.flatten_cons, List.flatten_nil, df]
            rw [ih.2, hoff]
            rfl
def bf(W:List Pl):∀(m:Nat)(_:m<W.length)(old:List Int),∃a,a<=m/\H8 W m old=(a,old++(((W.drop a).take (m-a)).map (·.off)).reverse)/\∀i up,a<=i->i<m->W[i]? =some up->up.nd.val=0/\up.nd.kids.length=1
 | 0,_,old=>⟨0,Ad _,by simp [H8],λi up h1 h2=>absurd h2 O⟩
 | m+1,h,old=>by
   have hm:m<W.length:=O
   rw [H8,Af hm,Af h]
   dsimp only
   split
   ·rename_i hu;obtain⟨a,h1,h2,h3⟩:=bf W m hm (old++[W[m].off]);refine⟨a,O,?_,λi up g1 g2 g3=> ?_⟩
    ·rw [h2,show m+1-a=(m-a)+1 by omega,List.take_succ_eq_append_getElem (by rw [AV];omega),List.map_append,List.reverse_append];have:(W.drop a)[m-a]'(by rw [AV];omega)=W[m]:=by rw [Yd];congr 1;omega
     simp [this]
    ·by_cases e:i=m
     ·subst e;rw [Af hm]at g3;injection g3 with g3
      exact g3▸hu
     ·exact h3 i up g1 O g3
   ·exact⟨m+1,Ad _,by simp,λi up g1 g2=>absurd g2 O⟩
end
