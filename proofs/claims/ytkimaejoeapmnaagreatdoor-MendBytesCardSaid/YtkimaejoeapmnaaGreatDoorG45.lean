import Derived.Test.YtkimaejoeapmnaaGreatDoorG44
set_option maxHeartbeats 32000000
set_option maxRecDepth 100000
open Int renaming ofNat->Cc
open List renaming nodup_nil->Ux,length_append->AQ,length_cons->BJ,length_nil->Dt,map_congr_left->FO,map_append->Dq,append_assoc->AX,nodup_append->Cj,mem_append_right->Bj,mem_map->Bf,mem_append->AL,mem_append_left->BD,length_map->BH,mem_singleton->BC,map_cons->BU,mem_cons->CZ,pairwise_cons->GL,mem_cons_self->Bq,mergeSort_perm->FC,find?_eq_none->Vy,mem_flatten->MP,takeWhile_cons->J3,getElem_of_mem->CU,length_take->DC,pairwise_iff_getElem->JR,drop_eq_getElem_cons->Ea,getElem_mem->BM,getD_eq_getElem?_getD->Bh
open Nat renaming le_refl->Ad,lt_of_not_le->QK,le_trans->Bg
open UInt64 renaming ofNat->AA
open Go.Lib renaming hid->Aa
namespace Go.Proofs.YtkimaejoeapmnaaGreatDoor
structure Vtd(s:St)(ahead:List UInt8)(name:UInt64)(a b:List Kv×List Int)(items:List Kv)(blocks:List Nat):Prop where
 tree:DF s (32-ahead.length) name items blocks
 its:b.1=a.1++items.map fun kv=>(pairs (ahead++kv.1),kv.2)
 met:b.2=a.2++blocks.map Cc
 once:blocks.Nodup
 new:∀o∈blocks,(o:Int)∉a.2
 keys:∀kv∈items,Jl (ahead++kv.1)=true/\kv.2≠0
 deep:ahead.length<=32
 taken:∀o∈blocks,∃d,AP s o d
 few:items.length<=blocks.length
theorem fZ{s:St}{ahead pre:List UInt8}{g:List Kv×List Int->UInt8×UInt64->Option (List Kv×List Int)}
 (hg:∀a y b,g a y=some b->∃items blocks,Vtd s (ahead++pre++[y.1]) y.2 a b items blocks):∀(ls:List UInt8)(ks:List UInt64),ls.length=ks.length->∀a b,(ls.zip ks).foldlM g a=some b->
 ∃parts:List Part,parts.length=ks.length/\(∀i(h1:i<ks.length)(h2:i<parts.length),DF s (32-ahead.length-pre.length-1) ks[i] parts[i].items parts[i].blocks)/\
  b.1=a.1++(Bl pre ls parts).map (fun kv=>(pairs (ahead++kv.1),kv.2))/\b.2=a.2++(AY parts).map Cc/\(AY parts).Nodup/\(∀o∈AY parts,(o:Int)∉a.2)/\
  (∀kv∈Bl pre ls parts,Jl (ahead++kv.1)=true/\kv.2≠0)/\(ks≠[]->ahead.length+pre.length+1<=32)/\(∀o∈AY parts,∃d,AP s o d)/\(Bl pre ls parts).length<=(AY parts).length
 | [],[],_,a,b,h=>by
   injection h with h
   subst h;exact⟨[],rfl,fun i h1=>absurd h1 (Nat.not_lt_zero _),by simp [Bl],by simp [AY],Ux,(fun _ h=>nomatch h),(fun _ h=>nomatch h),fun h=>absurd rfl h,(fun _ h=>nomatch h),Ad _⟩
 | [],_::_,h,_,_,_=>by simp at h
 | _::_,[],h,_,_,_=>by simp at h
 | l::ls,k::ks,hl,a,b,h=>by
   rw [List.zip_cons_cons,List.foldlM_cons]at h;cases hx:g a (l,k)with
   | none=>rw [hx]at h;cases h
   | some c=>
     rw [hx]at h;obtain⟨items,blocks,v⟩:=hg a (l,k) c hx;obtain⟨ps,e1,e2,e3,e4,e5,e6,e7,e8,e9,e10⟩:=fZ hg ls ks (by simpa using hl) c b h;have hd:=v.deep;simp only [AQ,BJ,Dt]at hd;have hkb:AY (⟨items,blocks⟩::ps)=blocks++AY ps:=by simp [AY]
     have hki:Bl pre (l::ls) (⟨items,blocks⟩::ps)=EJ pre l items++Bl pre ls ps:=rfl;have hun:(EJ pre l items).map (fun kv=>(pairs (ahead++kv.1),kv.2))=items.map fun kv=>(pairs (ahead++pre++[l]++kv.1),kv.2):=by
      unfold EJ;rw [List.map_map];refine FO fun kv _=> ?_
      simp
     refine⟨⟨items,blocks⟩::ps,by simp [e1],fun i h1 h2=> ?_,?_,?_,?_,?_,?_,fun _=>by omega,?_,?_⟩
     ·cases i with
      | zero=>
        have:=v.tree;simp only [AQ,BJ,Dt]at this;rw [show 32- (ahead.length+pre.length+1)=32-ahead.length-pre.length-1 by omega]at this;exact this
      | succ i=>exact e2 i (by simpa using h1) (by simpa using h2)
     ·rw [e3,v.its,hki,Dq,hun,AX]
     ·rw [e4,v.met,hkb,Dq,AX]
     ·rw [hkb,Cj];refine⟨v.once,e5,fun x hx y hy e=> ?_⟩;subst e;refine e6 x hy ?_;rw [v.met];exact Bj _ (Bf.2 ⟨x,hx,rfl⟩)
     ·rw [hkb];intro o ho;rcases AL.1 ho with ho| ho
      ·exact v.new o ho
      ·intro hm;refine e6 o ho ?_;rw [v.met];exact BD _ hm
     ·rw [hki];intro kv hkv;rcases AL.1 hkv with hkv| hkv
      ·obtain⟨kv',h1,rfl⟩:=Bf.1 hkv;have:=v.keys kv' h1;simpa using this
      ·exact e7 kv hkv
     ·rw [hkb];intro o ho;rcases AL.1 ho with ho| ho
      ·exact v.taken o ho
      ·exact e9 o ho
     ·rw [hkb,hki];have:=v.few;simp only [AQ,EJ,BH];omega
theorem ZY{L:Nat}{s:St}(ok:BA L s):∀(f:Nat)(name:UInt64)(ahead:List UInt8)(a b:List Kv×List Int),Dp s f name ahead a=some b->∃items blocks,Vtd s ahead name a b items blocks
 | 0,_,_,_,_,h=>by unfold Dp at h;cases h
 | f+1,name,ahead,(its,met),b,h=>by
   unfold Dp at h;cases hr:EZ s name with
   | none=>rw [hr]at h;cases h
   | some nd=>
     rw [hr]at h;simp only at h;obtain⟨o,ho,ht,hrb,_⟩:=H9 ok hr;have hrl:=((Bo nd).1 hrb).2.2.1;split at h
     ·cases h
     ·rename_i h0;split at h
      ·cases h
      ·rename_i h1;obtain⟨parts,e1,e2,e3,e4,e5,e6,e7,e8,e9,e10⟩:=fZ (s:=s) (ahead:=ahead) (pre:=nd.pre) (fun a y b h=>ZY ok f y.2 (ahead++nd.pre++[y.1]) a b h) nd.labels nd.kids hrl _ _ h;have hlen:ahead.length+nd.pre.length<=32:=by
        have:¬32<(ahead++nd.pre).length:=fun h=>h0 (.inr h)
        rw [AQ]at this;omega
       have hno:Bi name∉met:=fun hm=>h0 (.inl (by simpa using hm))
       have hoo:((Bi name).toNat:Int)=Bi name:=by rw [ho];rfl
       have hown:∀kv∈BX nd,Jl (ahead++kv.1)=true/\kv.2≠0:=fun kv hkv=>by
        unfold BX at hkv;split at hkv
        ·rename_i hv;rw [BC]at hkv;subst hkv;refine⟨?_,hv⟩;cases hk:Jl (ahead++nd.pre)with
         | true=>rfl
         | false=>exact absurd ⟨hv,hk⟩ h1
        ·cases hkv
       refine⟨_,_,DF.mk _ name nd parts hr (by omega) (fun hk=>by have:=e8 hk;omega) e1 e2,?_,?_,?_,?_,?_,by omega,?_,?_⟩
       ·rw [e3,Dq,<-AX];congr 1;unfold BX;split<;>simp
       ·rw [e4,BU,AX];show _=met++((Bi name).toNat:Int)::_;rw [hoo];rfl
       ·refine List.nodup_cons.2 ⟨fun hm=>e6 _ hm ?_,e5⟩;rw [hoo];exact Bj _ (BC.2 rfl)
       ·intro p hp;rcases CZ.1 hp with rfl| hp
        ·rw [hoo];exact hno
        ·exact fun hm=>e6 p hp (BD _ hm)
       ·intro kv hkv;exact(AL.1 hkv).elim (hown kv) (e7 kv)
       ·intro p hp;rcases CZ.1 hp with rfl| hp
        ·rw [ho];exact⟨_,ht⟩
        ·exact e9 p hp
       ·rw [AQ,BJ];have:(BX nd).length<=1:=by unfold BX;split<;>simp
        omega
section
variable{L:Nat}{s:St}
theorem WB(ok:BA L s)(nh:∀o d,¬EI s o d){its:List (List UInt8×UInt64)}{met:List Int}(h:DU s=some (its,met)):
 ∃(items:List Kv)(blocks:List Nat),its=items.map (fun kv=>(pairs kv.1,kv.2))/\met=blocks.map Cc/\blocks.Nodup/\(∀o∈blocks,∃d,AP s o d)/\items.length<=blocks.length/\(∀kv∈items,kv.2≠0)/\
  ∀X:Nat->Prop,(∀o∈blocks,¬X o)->(∀o,(∃d,AP s o d)<->o∈blocks\/X o)->P5 X L s items:=by
 unfold DU at h;split at h
 ·rename_i h0;injection h with h
  injection h with h1 h2
  exact⟨[],[],h1.symm,h2.symm,Ux,(fun _ h=>nomatch h),Ad _,(fun _ h=>nomatch h),fun X _ hx=>⟨ok,nh,.inl ⟨h0,rfl,fun o=>by simpa using hx o⟩,(fun _ h=>nomatch h)⟩⟩
 ·rename_i h0;obtain⟨items,blocks,v⟩:=ZY ok _ _ _ _ _ h;exact⟨items,blocks,by simpa using v.its,by simpa using v.met,v.once,v.taken,v.few,fun kv hkv=>(v.keys kv hkv).2,fun X h1 h2=>⟨ok,nh,.inr ⟨blocks,h0,v.tree,v.once,h1,h2⟩,fun kv hkv=>(v.keys kv hkv).1⟩⟩
theorem Ag9(ok:BA L s){v:UInt64}{o c:Nat}(e:Bi v=o)(h:AP s o c):v=AA o:=by
 have hb:=h.bounds ok;have h1:=ok.sh.MK;have h2:=ok.L1;have h3:=v.toNat_lt;unfold Bi at e;have:v.toNat=o:=by
  simp only [IntKind.wrap,IntKind.bits,IntKind.signed,Bool.true_and]at e;split at e<;>omega
 rw [<-this];simp
theorem ZZ(ok:BA L s):∀(f:Nat)(v:UInt64)(acc r:List Lk),Ox s f v acc=some r->∃l,r=acc++l/\D9 s v l/\∀k∈l,k.rc.stamp.toNat<EC acc
 | 0,_,_,_,h=>by unfold Ox at h;cases h
 | f+1,v,acc,r,h=>by
   unfold Ox at h;split at h
   ·rename_i h0;injection h with h
    have hv:v=0:=UInt64.toNat_inj.1 (by simpa using h0);exact⟨[],by rw [h];simp,hv▸.nil,(fun _ h=>nomatch h)⟩
   ·split at h
    ·cases h
    ·rename_i hc;have hc':D5 s (Bi v)=1:=Classical.not_not.1 hc;obtain⟨o,ho,ht⟩:=Rx ok hc' (by decide);rw [ho,Int.toNat_natCast]at h;cases hd:KJ (wordsAt s.ws (o/8) 8)with
     | none=>rw [hd]at h;cases h
     | some rc=>
       rw [hd]at h;simp only at h;split at h
       ·cases h
       ·rename_i hlt;obtain⟨l,hr,hch,hst⟩:=ZZ ok f rc.next _ _ h;obtain⟨d1,d2,_⟩:=tV hd;refine⟨⟨o,rc⟩::l,by rw [hr,AX];rfl,?_,fun k hk=> ?_⟩
        ·rw [Ag9 ok ho ht];refine .cons o rc l ht d1 d2.symm hch fun k hk=> ?_
         have:=hst k hk
         rwa [Gy]at this
        ·rcases CZ.1 hk with rfl| hk
         ·exact QK hlt
         ·have:=hst k hk;rw [Gy]at this;exact Nat.lt_trans this (QK hlt)
theorem Ot(ok:BA L s){v:UInt64}{l:List Lk}(h:II s v=some l):D9 s v l:=by
 obtain⟨l',e,hc,_⟩:=ZZ ok _ _ _ _ h;rw [List.nil_append]at e;exact e▸hc
theorem Adc(ok:BA L s){v:UInt64}{l:List Lk}(h:D9 s v l):l.length<=(Dx s).length:=by
 have:=EX (EU l) (Dx s) h.nodup.1 (fun o ho=>(Ia ok o).2 ⟨1,h.taken o ho⟩);unfold EU at this
 rwa [BH]at this
theorem Xr(ok:BA L s){f:Kv->List UInt8×UInt64}(hf:∀kv,(f kv).2=kv.2):∀(l:List Kv)(acc r:List Int),Fq s (l.map f) acc=some r->(∀kv∈l,∃c,II s kv.2=some c)/\r=acc++(l.map fun kv=>(EU ((II s kv.2).getD [])).map Cc).flatten
 | [],acc,r,h=>by
   simp only [List.map_nil,Fq,Option.some.injEq]at h;exact⟨(fun _ h=>nomatch h),by rw [<-h];simp⟩
 | kv::l,acc,r,h=>by
   rw [BU,Fq,hf]at h;cases hl:II s kv.2 with
   | none=>rw [hl]at h;cases h
   | some c=>
     rw [hl]at h;simp only at h;obtain⟨h1,h2⟩:=Xr ok hf l _ _ h;refine⟨fun kv' hk=> ?_,?_⟩
     ·rcases CZ.1 hk with rfl| hk
      ·exact⟨c,hl⟩
      ·exact h1 kv' hk
     ·rw [h2,(Ot ok hl).Am9,BU,List.flatten_cons,hl,AX];rfl
theorem zU:∀{l:List Int},l.Pairwise (fun x y=>x<=y)->Gv l=true->l.Pairwise (fun x y=>x<y)
 | [],_,_=> .nil
 | [_],_,_=>List.pairwise_singleton _ _
 | a::b::t,h,k=>by
   unfold Gv at k;simp only [Bool.and_eq_true,Bool.not_eq_true',beq_eq_false_iff_ne]at k;have h2:=GL.1 h;have ih:=zU h2.2 k.2;refine GL.2 ⟨fun x hx=> ?_,ih⟩;have hab:=h2.1 b (Bq ..);rcases CZ.1 hx with rfl| hx
   ·omega
   ·have:=(GL.1 ih).1 x hx;omega
theorem xJ{r:List Int}(h:Gv (Dc r)=true):r.Nodup:=by
 have hs:(Dc r).Pairwise (fun x y=>x<=y):=by
  have:=List.pairwise_mergeSort (le:=fun x y:Int=>decide (x<=y)) (fun a b c h1 h2=>by simp at*;omega) (fun a b=>by simp;omega) r;exact this.imp fun{a b}h=>by simpa using h
 exact(FC r _).nodup_iff.1 ((zU hs h).imp fun{a b}h e=>by omega)
def I8(s:St)(items:List Kv)(k:List UInt8):List Lk:=((items.find? fun kv=>kv.1==k).bind fun kv=>II s kv.2).getD []
theorem Ade(ok:BA L s)(nh:∀o d,¬EI s o d){its:List (List UInt8×UInt64)}{met:List Int}(h:DU s=some (its,met)){r:List Int}(ho:Fq s its (Dc met)=some r)(hd:Gv (Dc r)=true):
 ∃items ch,its=items.map (fun kv=>(pairs kv.1,kv.2))/\EW (fun o=>(∃d,AP s o d)/\(o:Int)∉r) L s items ch:=by
 obtain⟨items,blocks,hi,hm,hn,ht,hl,hv,hX⟩:=WB ok nh h;have hup:∀X:Nat->Prop,(∀o∈blocks,¬X o)->(∀o,(∃d,AP s o d)<->o∈blocks\/X o)->pF items:=fun X h1 h2=>(hX X h1 h2).up
 have hU:pF items:=hup (fun o=>(∃d,AP s o d)/\o∉blocks) (fun o ho h=>h.2 ho) (fun o=>⟨fun h=>(Classical.em (o∈blocks)).imp id (fun hb=>⟨h,hb⟩),fun h=>h.elim (ht o) (·.1)⟩);rw [hi]at ho;obtain⟨hs,hr⟩:=Xr (f:=fun kv=>(pairs kv.1,kv.2)) ok (fun _=>rfl) items _ _ ho;have hnd:=xJ hd;have hfind:∀kv∈items,items.find? (fun y=>y.1==kv.1)=some kv:=fun kv hkv=>by
  cases hf:items.find? (fun y=>y.1==kv.1)with
  | none=>exact absurd (Vy.1 hf kv hkv) (by simp)
  | some y=>
    have h1:=List.mem_of_find?_eq_some hf;have h2:=List.find?_some hf;rw [Ajt hU h1 hkv (by simpa using h2)]
 have hch:∀kv∈items,D9 s kv.2 (I8 s items kv.1)/\II s kv.2=some (I8 s items kv.1):=fun kv hkv=>by
  obtain⟨c,hc⟩:=hs kv hkv;have:I8 s items kv.1=c:=by
   unfold I8;rw [hfind kv hkv];show(II s kv.2).getD []=c;rw [hc];rfl
  rw [this];exact⟨Ot ok hc,hc⟩
 have hmap:(items.map fun kv=>(EU ((II s kv.2).getD [])).map Cc)=items.map fun kv=>(EU (I8 s items kv.1)).map Cc:=FO fun kv hkv=>by
  rw [(hch kv hkv).2];rfl
 rw [hmap]at hr;rw [hr]at hnd;obtain⟨n1,n2,n3⟩:=Cj.1 hnd;have hsm:∀o:Nat,(o:Int)∈Dc met<->o∈blocks:=fun o=>by
  rw [(show(Dc met).Perm met from FC _ _).mem_iff,hm];constructor
  ·intro h;obtain⟨p,hp,e⟩:=Bf.1 h;injection e with e
   exact e▸hp
  ·exact fun h=>Bf.2 ⟨o,h,rfl⟩
 have hof:∀kv∈items,∀o∈EU (I8 s items kv.1),(o:Int)∈(items.map fun kv=>(EU (I8 s items kv.1)).map Cc).flatten:=fun kv hkv o ho=>
  MP.2 ⟨_,Bf.2 ⟨kv,hkv,rfl⟩,Bf.2 ⟨o,ho,rfl⟩⟩
 have hrm:∀o:Nat,(o:Int)∈r<->o∈blocks\/∃kv∈items,o∈EU (I8 s items kv.1):=fun o=>by
  rw [hr,AL,hsm];refine or_congr Iff.rfl ⟨fun h=> ?_,fun⟨kv,h1,h2⟩=>hof kv h1 o h2⟩;obtain⟨l,h1,h2⟩:=MP.1 h;obtain⟨kv,h3,rfl⟩:=Bf.1 h1;obtain⟨p,h4,e⟩:=Bf.1 h2;injection e with e
  exact⟨kv,h3,e▸h4⟩
 refine⟨items,I8 s items,hi,hX _ ?_ ?_,fun kv hkv=>⟨(hch kv hkv).1,hv kv hkv⟩,fun k hk=> ?_,fun a ha b hb hab o hoa hob=> ?_,fun kv hkv o ho h=>h.2 ((hrm o).2 (.inr ⟨kv,hkv,ho⟩))⟩
 ·rintro o hob(⟨kv,hkv,ho⟩| h)
  ·exact n3 _ ((hsm o).2 hob) _ (hof kv hkv o ho) rfl
  ·exact h.2 ((hrm o).2 (.inl hob))
 ·intro o;constructor
  ·intro h;by_cases hm':(o:Int)∈r
   ·exact((hrm o).1 hm').imp id .inl
   ·exact .inr (.inr ⟨h,hm'⟩)
  ·rintro(h| ⟨kv,hkv,ho⟩| h)
   ·exact ht o h
   ·exact⟨1,(hch kv hkv).1.taken o ho⟩
   ·exact h.1
 ·unfold I8;rw [Vy.2 (fun kv hkv=>by simpa using hk kv hkv)];rfl
 ·obtain⟨_,hd2⟩:=List.pairwise_flatten.1 n2;have hne:∀(l:List Kv),l.Pairwise (fun a b=>∀x∈(EU (I8 s items a.1)).map Cc,∀y∈(EU (I8 s items b.1)).map Cc,x≠y)->a∈l->b∈l->False:=fun l hp ha hb=>by
   induction l with
   | nil=>cases ha
   | cons c l ih=>
     obtain⟨p1,p2⟩:=GL.1 hp;rcases CZ.1 ha with rfl| ha'<;>rcases CZ.1 hb with rfl| hb'
     ·exact hab rfl
     ·exact p1 b hb' _ (Bf.2 ⟨o,hoa,rfl⟩) _ (Bf.2 ⟨o,hob,rfl⟩) rfl
     ·exact p1 a ha' _ (Bf.2 ⟨o,hob,rfl⟩) _ (Bf.2 ⟨o,hoa,rfl⟩) rfl
     ·exact ih p2 ha' hb'
  exact hne items (List.pairwise_map.1 hd2) ha hb
theorem qX(ok:BA L s):∀{l:List (List UInt8×UInt64)}{acc r:List Int},Fq s l acc=some r->r.length<=acc.length+l.length*(Dx s).length
 | [],acc,r,h=>by
   simp only [Fq,Option.some.injEq]at h;rw [h];simp
 | it::l,acc,r,h=>by
   rw [Fq]at h;cases hl:II s it.2 with
   | none=>rw [hl]at h;cases h
   | some c=>
     rw [hl]at h;have h1:=qX ok h;have h2:=Adc ok (Ot ok hl);rw [AQ,BH]at h1;rw [BJ,Nat.succ_mul];omega
theorem Anz{X:Nat->Prop}{items:List Kv}(h:P5 X L s items){kv:Kv}(hk:kv∈items):kv.1.length<=32:=by
 rcases h.tree with⟨_,e,_⟩| ⟨_,_,T,_⟩
 ·rw [e]at hk;cases hk
 ·exact(T.nib h.ok kv hk).2.1
theorem An0{X:Nat->Prop}{items:List Kv}(h:P5 X L s items):items.length<=(Dx s).length:=by
 obtain⟨met,h1,_⟩:=RP h;obtain⟨OA,blocks,e1,_,e3,e4,e5,_⟩:=WB h.ok h.nh h1;have h2:=congrArg List.length e1;rw [BH,BH]at h2;have:=EX blocks (Dx s) e3 (fun o ho=>(Ia h.ok o).2 (e4 o ho));omega
end
def newer(slot:Nat)(x:Lk):Bool:=decide (slot<x.rc.stamp.toNat)
theorem Ak8{α:Type}(p:α->Bool):∀(l:List α),(l.takeWhile p).length<=l.length
 | []=>Ad _
 | a::l=>by
   rw [J3];split
   ·simpa using Ak8 p l
   ·simp
theorem zV{slot:Nat}:∀{l:List Lk},(∀y∈l,y.rc.stamp.toNat<=slot)->(l.takeWhile (newer slot)).length=0
 | [],_=>rfl
 | a::l,h=>by
   have:newer slot a=false:=decide_eq_false (by have:=h a (Bq ..);omega);rw [J3,this];rfl
theorem Ak9{α:Type}{p:α->Bool}:∀(l:List α)(j:Nat),j<=(l.takeWhile p).length->∀h:j<l.length,(p l[j]=true<->j<(l.takeWhile p).length)
 | a::l,0,_,_=>by
   rw [J3];show p a=true<->_;by_cases h:p a=true
   ·rw [if_pos h];simp [h]
   ·rw [if_neg h];simp [h]
 | a::l,j+1,hj,h=>by
   rw [J3]at hj⊢;split at hj
   ·rename_i ha;rw [if_pos ha];simpa using Ak9 l j (by simpa using hj) (by simpa using h)
   ·simp at hj
theorem Yo{α:Type}(p:α->Bool):∀(l:List α),l.dropWhile p=l.drop (l.takeWhile p).length
 | []=>rfl
 | a::l=>by
   rw [J3,List.dropWhile_cons];split
   ·simpa using Yo p l
   ·rfl
def bkC(slot:Nat)(ch:List UInt8->List Lk)(ks:List (List UInt8))(k:List UInt8):List Lk:=if k∈ks then(ch k).dropWhile (newer slot)else ch k
theorem ae{s:St}{v:UInt64}{x:Lk}{t:List Lk}(h:D9 s v (x::t)):v=AA x.off.toNat:=by cases h;rfl
theorem Qr{s:St}{l:List Lk}:∀(a:List Lk){v:UInt64},D9 s v (a++l)->∃v',D9 s v' l
 | [],v,h=>⟨v,h⟩
 | x::a,v,h=>by
   cases h with
   | cons o r _ _ _ _ hn _=>exact Qr a hn
section
variable{Y:Nat->Prop}{L:Nat}{s s1:St}{items OA:List Kv}{ch:List UInt8->List Lk}
theorem af(h:EW Y L s items ch){kv:Kv}(hkv:kv∈items){a b:List Lk}(hab:ch kv.1=a++b){ch':List UInt8->List Lk}(hc1:ch' kv.1=b)(hc2:∀k,k≠kv.1->ch' k=ch k)
 (hi:∀q,q∈OA<->(q∈items/\q.1≠kv.1)\/(q.1=kv.1/\∃x t,b=x::t/\q.2=AA x.off.toNat))
 (kx:RN (fun o=>(∃kv∈items,o∈EU (ch kv.1))\/Y o) s s1)(ix:P5 (fun o=>(∃kv∈items,o∈EU (ch kv.1))\/Y o) L s1 OA):
 EW (fun o=>Y o\/o∈EU a) L s1 OA ch':=by
 have hoff:EU (ch kv.1)=EU a++EU b:=by rw [hab];unfold EU;rw [Dq]
 obtain⟨hcv,hv0⟩:=h.chain kv hkv;have hnd:=hcv.nodup.1;rw [hoff]at hnd;obtain⟨_,_,Ava⟩:=Cj.1 hnd;have Asf:∀x t,b=x::t->(kv.1,AA x.off.toNat)∈OA:=fun x t e=>(hi _).2 (.inr ⟨rfl,x,t,e,rfl⟩)
 have hsub:∀q∈OA,∃q'∈items,q'.1=q.1/\∀o∈EU (ch' q.1),o∈EU (ch q'.1):=fun q hq=>by
  rcases(hi q).1 hq with⟨h1,h2⟩| ⟨h1,_⟩
  ·exact⟨q,h1,rfl,fun o ho=>by rw [hc2 _ h2]at ho;exact ho⟩
  ·refine⟨kv,hkv,h1.symm,fun o ho=> ?_⟩;rw [h1,hc1]at ho;rw [hoff];exact Bj _ ho
 refine⟨ix.congr fun o=>⟨?_,?_⟩,fun q hq=> ?_,fun k hk=> ?_,fun q hq q' hq' hne o ho ho'=> ?_,fun q hq o ho hY=> ?_⟩
 ·rintro(⟨q,hq,ho⟩| hY)
  ·by_cases e:q.1=kv.1
   ·rw [e,hoff]at ho;rcases AL.1 ho with ho| ho
    ·exact .inr (.inr ho)
    ·cases hb:b with
     | nil=>rw [hb]at ho;cases ho
     | cons x t=>exact .inl ⟨_,Asf x t hb,by rw [hc1];exact ho⟩
   ·exact .inl ⟨q,(hi q).2 (.inl ⟨hq,e⟩),by rw [hc2 _ e];exact ho⟩
  ·exact .inr (.inl hY)
 ·rintro(⟨q,hq,ho⟩| hY| ho)
  ·obtain⟨q',h1,_,h3⟩:=hsub q hq;exact .inl ⟨q',h1,h3 o ho⟩
  ·exact .inr hY
  ·exact .inl ⟨kv,hkv,by rw [hoff];exact BD _ ho⟩
 ·rcases(hi q).1 hq with⟨h1,h2⟩| ⟨h1,x,t,hb,h2⟩
  ·rw [hc2 _ h2];obtain⟨g1,g2⟩:=h.chain q h1;exact⟨g1.keep kx.keep (fun o ho=> .inl ⟨q,h1,ho⟩),g2⟩
  ·rw [h1,hc1,h2];rw [hab]at hcv;obtain⟨v',hv'⟩:=Qr a hcv;have hk:D9 s1 v' b:=hv'.keep kx.keep (fun o ho=> .inl ⟨kv,hkv,by rw [hoff];exact Bj _ ho⟩);rw [hb]at hv' hk⊢;have e:=ae hv';rw [<-e];refine⟨hk,fun e0=> ?_⟩;rw [e0]at hv';exact absurd (chain_nil hv' h.ix.ok) (by simp)
 ·by_cases e:k=kv.1
  ·rw [e,hc1];cases hb:b with
   | nil=>rfl
   | cons x t=>exact absurd e.symm (hk (kv.1,AA x.off.toNat) (Asf x t hb))
  ·rw [hc2 k e];exact h.none k fun q hq hqk=>hk q ((hi q).2 (.inl ⟨hq,fun e2=>e (hqk▸e2)⟩)) hqk
 ·obtain⟨p,h1,h2,h3⟩:=hsub q hq;obtain⟨p',h4,h5,h6⟩:=hsub q' hq';exact h.Yd p h1 p' h4 (fun e=>hne (h2▸h5▸e)) o (h3 o ho) (h6 o ho')
 ·obtain⟨p,h1,h2,h3⟩:=hsub q hq;rcases hY with hY| hY
  ·exact h.loose p h1 o (h3 o ho) hY
  ·by_cases e:q.1=kv.1
   ·rw [e,hc1]at ho;exact Ava o hY o ho rfl
   ·exact h.Yd p h1 kv hkv (fun e2=>e (h2▸e2)) o (h3 o ho) (by rw [hoff];exact BD _ hY)
def Qs(slot:Nat)(L:Nat)(s0:St)(items:List Kv)(ch:List UInt8->List Lk)(k:Nat)(s:St):Prop:=
 RV s0 s/\((∀k',∀y∈ch k',y.rc.stamp.toNat<=slot)->s=s0)/\∃Y' items',EW Y' L s items' (bkC slot ch ((items.take k).map (·.1)))/\∀kv∈items.drop k,kv∈items'
theorem Aj9{slot k:Nat}(hup:pF items)(hk:k<items.length):(bkC slot ch ((items.take k).map (·.1)) items[k].1=ch items[k].1)/\(bkC slot ch ((items.take (k+1)).map (·.1)) items[k].1=(ch items[k].1).dropWhile (newer slot))/\
 ∀k',k'≠items[k].1->bkC slot ch ((items.take (k+1)).map (·.1)) k'=bkC slot ch ((items.take k).map (·.1)) k':=by
 have hn:items[k].1∉(items.take k).map (·.1):=fun hm=>by
  obtain⟨q,hq,e⟩:=Bf.1 hm;obtain⟨j,hj,rfl⟩:=CU hq;rw [DC]at hj;rw [List.getElem_take]at e;have:=JR.1 hup j k (by omega) hk (by omega);rw [e,Fb]at this;cases this
 have hm:∀x,x∈(items.take (k+1)).map (·.1)<->x∈(items.take k).map (·.1)\/x=items[k].1:=fun x=>by
  rw [List.take_succ_eq_append_getElem hk,Dq,AL];simp
 unfold bkC;refine⟨if_neg hn,if_pos ((hm _).2 (.inr rfl)),fun k' hne=> ?_⟩;have:k'∈(items.take (k+1)).map (·.1)<->k'∈(items.take k).map (·.1):=by rw [hm];exact⟨fun h=>h.resolve_right hne,.inl⟩
 by_cases h:k'∈(items.take k).map (·.1)
 ·rw [if_pos h,if_pos (this.2 h)]
 ·rw [if_neg h,if_neg (fun h2=>h (this.1 h2))]
theorem Aha{k:Nat}(hk:k<items.length){q:Kv}(h:q∈items.drop (k+1))(hup:pF items):q∈items.drop k/\q.1≠items[k].1:=by
 rw [Ea hk];refine⟨List.mem_cons_of_mem _ h,fun e=> ?_⟩;obtain⟨j,hj,rfl⟩:=CU h;rw [List.length_drop]at hj;rw [List.getElem_drop]at e;have:=JR.1 hup k (k+1+j) hk (by omega) (by omega);rw [e,Fb]at this;cases this
theorem Adf (hup : pF items) {s0 : St} {slot k : Nat} (hk : k < items.length) (h : Qs slot L s0 items ch k s) (hkey : Jl items[k].1 = true) (hkl : items[k].1.length <= 32) :
    ∃ l, l = ch items[k].1 /\ II s items[k].2 = some l /\ l ≠ [] /\
      ((l.takeWhile (newer slot)).length = 0 -> Qs slot L s0 items ch (k + 1) s) /\
      ((l.takeWhile (newer slot)).length = l.length -> (U7 s (pairs items[k].1)).2.2 = 0 /\ Qs slot L s0 items ch (k + 1) (U7 s (pairs items[k].1)).1) /\
      (∀ h : (l.takeWhile (newer slot)).length < l.length, 0 < (l.takeWhile (newer slot)).length -> (KW s (pairs items[k].1) (AA l[(l.takeWhile (newer slot)).length].off.toNat)).2 = 0 /\ Qs slot L s0 items ch (k + 1) (KW s (pairs items[k].1) (AA l[(l.takeWhile (newer slot)).length].off.toNat)).1) := by
  obtain ⟨hlo, hsm, Y', items', hs, hd⟩ := h
  obtain ⟨b1, b2, b3⟩ := Aj9 (slot := slot) (ch := ch) hup hk
  have hin : items[k] ∈ items' := hd _ (by rw [Ea hk]; exact Bq ..)
  obtain ⟨hch, hv⟩ := hs.chain _ hin
  rw [b1] at hch
  have hne := ZO hch hv
  have hnk : DR (pairs items[k].1) = items[k].1 := by
    obtain ⟨h1, h2⟩ := qc hkey
    exact Yw _ h1 h2
  have hpl : (pairs items[k].1).length <= 16 := by rw [MQ]; omega
  have dm := fun q (hq : q ∈ items.drop (k + 1)) => Aha hk hq hup
  generalize items[k] = kv at *
  refine ⟨ch kv.1, rfl, hch.listed hs.ix.ok, hne, fun h0 => ?_, fun h0 => ?_, fun h0 hpos => ?_⟩
  · have he : bkC slot ch ((items.take (k + 1)).map (·.1)) = bkC slot ch ((items.take k).map (·.1)) := funext fun x => by
      by_cases e : x = kv.1
      · rw [e, b1, b2, Yo, h0]; rfl
      · exact b3 x e
    exact ⟨hlo, hsm, Y', items', he ▸ hs, fun q hq => hd q (by rw [show items.drop (k + 1) = (items.drop k).drop 1 by rw [List.drop_drop]] at hq; exact List.mem_of_mem_drop hq)⟩
  · have hdw : (ch kv.1).dropWhile (newer slot) = [] := by rw [Yo, h0, List.drop_length]
    have hco := Am8 hs.ix (pairs kv.1) hpl
    rw [hnk] at hco
    rcases hco with ⟨_, hno⟩ | ⟨kx, e, hm, OA, ix2, hcut⟩
    · exact absurd rfl (hno _ hin)
    · refine ⟨by rw [e], hlo.trans kx.Aju, fun ha => absurd (List.eq_nil_of_length_eq_zero (h0.symm.trans (zV (ha kv.1)))) hne, _, OA, af hs hin (a := ch kv.1) (b := []) (by rw [b1]; simp) (by rw [b2, hdw]) b3 (fun q => ?_) kx ix2, fun q hq => ?_⟩
      · rw [hcut q]
        exact ⟨.inl, fun h => h.elim id fun h => by obtain ⟨_, x, t, e, _⟩ := h; cases e⟩
      · obtain ⟨g1, g2⟩ := dm q hq
        exact (hcut q).2 ⟨hd q g1, g2⟩
  · obtain ⟨n, hn⟩ : ∃ n, n = ((ch kv.1).takeWhile (newer slot)).length := ⟨_, rfl⟩
    have hsp : ch kv.1 = (ch kv.1).takeWhile (newer slot) ++ (ch kv.1).dropWhile (newer slot) := List.takeWhile_append_dropWhile.symm
    have hdw : (ch kv.1).dropWhile (newer slot) = (ch kv.1)[((ch kv.1).takeWhile (newer slot)).length] :: (ch kv.1).drop (((ch kv.1).takeWhile (newer slot)).length + 1) := by rw [Yo, <- Ea h0]
    obtain ⟨x, hx⟩ : ∃ x, x = (ch kv.1)[((ch kv.1).takeWhile (newer slot)).length] := ⟨_, rfl⟩
    rw [<- hx] at hdw ⊢
    have hv0 : AA x.off.toNat ≠ 0 := fun e0 => by
      rw [hsp, hdw] at hch
      obtain ⟨v', hv'⟩ := Qr _ hch
      rw [ae hv', e0] at hv'
      exact absurd (chain_nil hv' hs.ix.ok) (by simp)
    obtain ⟨kx, hpo⟩ := Agc hs.ix (pairs kv.1) hpl (AA x.off.toNat) hv0
    rw [hnk] at hpo
    rcases hpo with ⟨_, _, hno⟩ | ⟨e, OA, ix2, hput⟩
    · exact absurd rfl (hno _ hin)
    · refine ⟨e, hlo.trans kx.Aju, fun ha => absurd (zV (ha kv.1)) (by omega), _, OA, af hs hin (a := (ch kv.1).takeWhile (newer slot)) (b := (ch kv.1).dropWhile (newer slot)) (by rw [b1]; exact hsp) b2 b3 (fun q => ?_) kx ix2, fun q hq => ?_⟩
      · rw [hput q, hdw]
        constructor
        · rintro (rfl | h)
          · exact .inr ⟨rfl, x, _, rfl, rfl⟩
          · exact .inl h
        · rintro (h | ⟨h1, y, t, e2, h2⟩)
          · exact .inr h
          · injection e2 with e2 _
            subst e2
            exact .inl (Prod.ext h1 h2)
      · obtain ⟨g1, g2⟩ := dm q hq
        exact (hput q).2 (.inr ⟨hd q g1, g2⟩)
end
open Go.RowKit
theorem Aka(o:Int)(h0:0<=o)(h1:o<18446744073709551616):IntKind.u64.wrap o=((AA o.toNat).toNat:Int):=by
 rw [show(AA o.toNat).toNat=o.toNat%2^64 from by simp,Nat.mod_eq_of_lt (by omega)];simp only [IntKind.wrap,IntKind.bits,IntKind.signed,Bool.false_and,Bool.false_eq_true,if_false];omega
theorem D9.An1{L:Nat}{s:St}(ok:BA L s){v:UInt64}{l:List Lk}(h:D9 s v l):∀k∈l,0<=k.off/\k.off<65537:=by
 induction h with
 | nil=>intro _ h;cases h
 | cons o r l ht _ _ _ _ ih=>
   intro k hk;rcases CZ.1 hk with rfl| hk
   ·have:=(ht.bounds ok).2.1;have:=ok.L1;show 0<=(o:Int)/\(o:Int)<65537;omega
   ·exact ih k hk
section
variable{w w':World}{x d p L:Nat}{s:St}{F Y:Nat->Prop}{items:List Kv}{ch:List UInt8->List Lk}
theorem gm(h:Ix w x d p L s F)(hs:EW Y L s items ch)(slot:UInt64):
 Calls Tryz.prog 30 #[Aw d,Aw p,Aw x,.int .u64 (slot.toNat:Int)] w fun e w'=>e= .returned (.int .i64 0)/\∃s' F',Ix w' x d p L s' F'/\Qs slot.toNat L s items ch items.length s'/\AO F F' w w':=by
 obtain⟨met,hsv,_⟩:=RP hs.ix;have Ag5:=Aa (fH h);have HX:=Aa h;have HS:=Aa hsv;have LG:Hid (∀b,F b->b<w.heap.size):=Aa h.sys.lt;have HUp:=Aa hs.ix.up;have HKe:=Aa hs.ix.even;have HKl:Hid (∀kv∈items,kv.1.length<=32):=Aa (fun kv hkv=>Anz hs.ix hkv);have HB0:Hid (Qs slot.toNat L s items ch 0 s):=Aa ⟨RV.refl _,fun _=>rfl,Y,items,hs,fun _ h=>h⟩;obtain⟨n,hn⟩:∃n,n=items.length:=⟨_,rfl⟩;have HN:=Aa hn;have hnl:n<=65537:=by
  have:=An0 hs.ix;have:=zI hs.ix.ok;omega
 clear h hs hsv hn;go_enter Tryz.func30,Tryz.ntmps30
 go_wp2_with fail
 refine Ag5.out.mono ?_;rintro e w2⟨hb2,hp2⟩;rw [HS.out]at hp2;obtain⟨v2,rfl,ho2,hm2⟩:=hp2;obtain⟨A2,c2,rfl,hc2,hr2⟩:=DN ho2;have HB2:=Aa hb2;have HR2:Hid (IK w2 F A2 ((items.map fun kv=>(pairs kv.1,kv.2)).length*2) (((items.map fun kv=>(pairs kv.1,kv.2)).map itV).flatten)):=Aa ⟨hr2,fun _ a ea hf=>by
  have:=(xI ho2 a ea).1;have:=LG.out _ hf;omega⟩
 have vg:=Aa (HX.out.below hb2);rw [BH,<-HN.out];clear Ag5 ho2 hb2 hr2 hc2 hm2
 go_wp2_with fail
 go_loopw [26](fun i wr=>∃(k:Nat)(sk:St)(Fk:Nat->Prop),k<=n/\i= .int .i64 (k:Nat)/\Ix wr x d p L sk Fk/\Qs slot.toNat L s items ch k sk/\AO F Fk w wr/\IK wr Fk A2 ((items.map fun kv=>(pairs kv.1,kv.2)).length*2) (((items.map fun kv=>(pairs kv.1,kv.2)).map itV).flatten))(fun i _=>n- (intOf i).toNat)
 case atStart=>exact⟨0,s,F,Nat.zero_le _,rfl,vg.out,HB0.out,AO.of_below HB2.out,HR2.out⟩
 case round=>
  obtain⟨k,sk,Fk,hk,rfl,hxk,hbk,hmk,hrk⟩:=hrel;have HXk:=Aa hxk;have Tt:=Aa hbk;have HMk:=Aa hmk;have HRk:=Aa hrk;clear hxk hbk hmk hrk vg HR2 HB2 HB0;by_cases hlt:k<n
  ·have hki:k<items.length:=by have:=HN.out;omega
   obtain⟨b,off,rfl,hbw,q0,q1⟩:=Ag4 HRk.out.1 k (by rw [BH];exact hki);rw [List.getElem_map]at q0 q1;obtain⟨hx1,hx2,hx5⟩:=aJ hlt;have hwk:=lh k (by omega);obtain⟨l,_,uQ,Asg,hs1,hs2,hs3⟩:=Adf HUp.out hki Tt.out (HKe.out _ (BM hki)) (HKl.out _ (BM hki));have hpl:(pairs items[k].1).length<=16:=by rw [MQ];have:=HKl.out _ (BM hki);omega
   have HL1:Hid (∀y∈l,0<=y.off/\y.off<65537):=Aa (by
    obtain⟨_,_,_,_,hsy,_⟩:=Tt.out;exact(Ot hsy.ix.ok uQ).An1 hsy.ix.ok)
   obtain⟨m,hm⟩:∃m,m=(l.takeWhile (newer slot.toNat)).length:=⟨_,rfl⟩;have hml:m<=l.length:=by rw [hm];exact Ak8 _ l
   have HTw:Hid (∀j,j<=m->∀h:j<l.length,(newer slot.toNat l[j]=true<->j<m)):=Aa (by rw [hm];exact Ak9 l);rw [<-hm]at hs1 hs2;have OC:Hid (∀h:m<l.length,0<m->(KW sk (pairs items[k].1) (AA l[m].off.toNat)).2=0/\Qs slot.toNat L s items ch (k+1) (KW sk (pairs items[k].1) (AA l[m].off.toNat)).1):=Aa (by subst hm;exact hs3);obtain⟨ky,hky⟩:∃ky,ky=pairs items[k].1:=⟨_,rfl⟩;obtain⟨vl,hvl⟩:∃vl,vl=items[k].2:=⟨_,rfl⟩;rw [<-hky]at q0 hs2 OC hpl;rw [<-hvl]at q1 uQ;have HS1:=Aa hs1;have HS2:=Aa hs2;have HM:=Aa uQ;have hl0:0<l.length:=List.length_pos_iff.2 Asg;obtain⟨w4,hw4,hb4,hB4⟩:=FB wr 104 [.string ⟨ky.toArray⟩,.int .u64 (vl.toNat:Int)];have HB4:=Aa hb4;have oh:=Aa hB4;have VN:=Aa (dW (HXk.out.below hb4).sys vl);have aA:=Aa hw4;clear hs1 hs2 hs3 uQ Asg hm hky hvl hw4 hb4 hB4
   go_wp2_with fail
   rw [<-aA.out];refine VN.out.mono ?_;rintro e w5⟨hb5,hp5⟩;rw [HM.out]at hp5;obtain⟨qO,v5,rfl,V8⟩:=hp5;have hfew:=qO.few;obtain⟨A5,c5,rfl,hc5,uk⟩:=jk V8;have rV:=Aa uk;have HA5:Hid (∀a,A5=some a->¬Fk a.block/\a.block<w5.heap.size):=Aa (fun a ea=>by
    obtain⟨h1,h2⟩:=xI V8 a ea;refine⟨fun hf=> ?_,h2⟩;have:=HXk.out.sys.lt _ hf;have:=HB4.out.size;omega)
   have Jy:=Aa (HB4.out.trans (hb5.mono HB4.out.size));have k5:=oh.out.below hb5 oh.out.lt;obtain⟨e0,e1⟩:=k5.p2;have yQ:Hid (∀W,Touch Fk w5 W->W.cell? ⟨wr.heap.size,0,none⟩=some (.string ⟨ky.toArray⟩)):=Aa (fun W k=>by
    have:=(k.block wr.heap.size k5.lt (fun hf=>Nat.lt_irrefl _ (HXk.out.sys.lt _ hf))).trans k5;exact CG.cell (w:=W) this 0)
   have Asi:=HXk.out.below Jy.out;have su:=Aa Asi;have QY:=Aa (HMk.out.trans (AO.of_below Jy.out));have An2:=Aa (HRk.out.below Jy.out);obtain⟨nl,An3⟩:∃nl,nl=l.length:=⟨_,rfl⟩;have pW:=Aa An3;rw [<-An3]at hfew hl0 hml⊢;clear VN V8 hb5 uk qO hc5 k5 HM Asi HMk HRk HXk An3
   go_wp2_with fail
   go_loopw [15](fun i wq=>∃j:Nat,j<=m/\i= .int .i64 (j:Nat)/\wq=w5)(fun i _=>nl- (intOf i).toNat)
   case atStart=>exact⟨0,Nat.zero_le _,rfl,rfl⟩
   case round=>
    obtain⟨j,hj,rfl,e⟩:=hrel;obtain rfl:=e.symm;by_cases hjn:j<nl
    ·obtain⟨b5,Asj,rfl,jg,z0,z1,z2,z3,z4⟩:=rV.out.at j (by have:=pW.out;omega);have htw:=HTw.out j hj (by have:=pW.out;omega);have HSa:=Aa (fun(e:j=m)=>OC.out (by have:=pW.out;omega));have kW:=HL1.out _ (BM (show j<l.length by have:=pW.out;omega));obtain⟨y1,y2,y5⟩:=aJ hjn;have hwj:=lh j (by omega);obtain⟨lk,hlk⟩:∃lk,lk=l[j]'(by have:=pW.out;omega):=⟨_,rfl⟩;rw [<-hlk]at z0 z1 z2 z3 z4 htw kW;have HLk:=Aa hlk;clear hlk z2 z3 z4;by_cases hjm:j<m
     ·have hst:slot.toNat<lk.rc.stamp.toNat:=by have:=htw.2 hjm;unfold newer at this;simpa using this
      have t1:decide ((slot.toNat:Int)<(lk.rc.stamp.toNat:Int))=true:=decide_eq_true (by omega);have t2:decide (slot.toNat<lk.rc.stamp.toNat)=true:=decide_eq_true hst;generalize lk.rc.stamp=st at*;clear htw kW HSa
      go_wp2_with fail
      go_roundw
      case rel=>exact⟨j+1,by omega,by go_num,by trivial⟩
      case measure=>simp [intOf];omega
     ·have hje:j=m:=by omega
      have hst:¬slot.toNat<lk.rc.stamp.toNat:=fun h=>hjm (htw.1 (by unfold newer;simpa using h))
      have t1:decide ((slot.toNat:Int)<(lk.rc.stamp.toNat:Int))=false:=decide_eq_false (by omega);have t2:decide (slot.toNat<lk.rc.stamp.toNat)=false:=decide_eq_false hst;by_cases hj0:j=0
      ·subst hj0;have HBn:=Aa (HS1.out hje.symm);generalize lk.rc.stamp=st at*;clear htw kW HSa hst hje
       go_wp2_with fail
       go_roundw
       case rel=>exact⟨k+1,sk,Fk,by omega,by go_num,su.out,HBn.out,QY.out,An2.out⟩
       case measure=>simp [intOf];omega
      ·have t3:((j:Int)==0)=false:=by rw [beq_eq_false_iff_ne];omega
       have t4:((j:Int)==(nl:Int))=false:=by rw [beq_eq_false_iff_ne];omega
       have hvn:=Aka lk.off kW.1 (by omega);obtain⟨hp1,hp2⟩:=HSa.out hje (by omega);have hidx:l[m]'(by have:=pW.out;omega)=lk:=by rw [HLk.out];congr 1;exact hje.symm
       rw [hidx]at hp1 hp2;have vF:Hid (∀W,Below w5.heap.size w5 W->_):=Aa (fun W k=>VT (su.out.below k) ⟨ky.toArray⟩ (by show ky.toArray.size<=1000;simp;omega) (AA lk.off.toNat));have kS:Hid (∀W,Touch Fk w5 W->W.cell? ⟨wr.heap.size,0,none⟩=some (.string ⟨ky.toArray⟩)/\W.cell? ⟨b5,Asj+j*5,none⟩=some (.int .i64 lk.off)):=Aa (fun W k=>⟨yQ.out W k,(World.cell?_of_block (k.block b5 jg (HA5.out _ rfl).1)).trans z0⟩);have HBn:=Aa hp2;have uj:=Aa hp1;generalize lk.rc.stamp=st at*;generalize AA lk.off.toNat=nv at*;generalize lk.off=lo at*;clear htw kW HSa hst hje hp1 hp2 hidx HLk
       go_wp2_with fail
       go_region_held3(fun w'=>w'.cell? ⟨wr.heap.size,0,none⟩=some (.string ⟨ky.toArray⟩)/\w'.cell? ⟨b5,Asj+j*5,none⟩=some (.int .i64 lo))
        (first| exact⟨e0,z0⟩| exact kS.out _ ((AO.of_below ((Dr.drew w5).below _)).trans Vu).touch)
        ((first| (go_at_call 71;refine(vF.out _ ((Dr.drew w5).below _)).mono ?_;rintro e w6⟨rfl,F6,hx6,Vu⟩)))
       replace Vu:=(AO.of_below ((Dr.drew w5).below _)).trans Vu;have hc6:(KW sk (⟨ky.toArray⟩:ByteArray).data.toList nv).2=0:=uj.out;rw [hc6];have kV:=Aa hx6;have TY:=Aa (QY.out.trans Vu);have rZ:=Aa (An2.out.moved Vu);clear vF hx6 Vu hc6
       go_wp2_with fail
       go_roundw
       case rel=>exact⟨k+1,_,F6,by omega,by go_num,kV.out,HBn.out,TY.out,rZ.out⟩
       case measure=>simp [intOf];omega
    ·have hje:j=nl:=by omega
     have hme:m=l.length:=by have:=pW.out;omega
     obtain⟨y2,y5⟩:=yj hjn;have t3:((j:Int)==0)=false:=by rw [beq_eq_false_iff_ne];omega
     have t4:((j:Int)==(nl:Int))=true:=by simp;omega
     obtain⟨hp1,hp2⟩:=HS2.out hme;have HCu:=Aa (zL su.out ⟨ky.toArray⟩ (by show ky.toArray.size<=1000;simp;omega));have HBn:=Aa hp2;have uj:=Aa hp1;clear hp1 hp2 hje hme
     go_wp2_with fail
     refine HCu.out.mono ?_;rintro e w6⟨rfl,F6,hx6,Vu⟩;have hc6:(U7 sk (⟨ky.toArray⟩:ByteArray).data.toList).2.2=0:=uj.out;rw [hc6];have kV:=Aa hx6;have TY:=Aa (QY.out.trans Vu);have rZ:=Aa (An2.out.moved Vu);clear HCu hx6 Vu hc6
     go_wp2_with fail
     go_roundw
     case rel=>exact⟨k+1,_,F6,by omega,by go_num,kV.out,HBn.out,TY.out,rZ.out⟩
     case measure=>simp [intOf];omega
  ·obtain⟨hx2,hx5⟩:=yj hlt;have hkn:k=items.length:=by have:=HN.out;omega
   subst hkn
   go_wp2_with fail
   go_ret;exact⟨rfl,sk,Fk,HXk.out,Tt.out,HMk.out⟩
end
section
variable{L:Nat}{sh:Sh}{ws:Nat->UInt64}
theorem qY{i:Nat}(hi:i<sh.BI):(Ee ws sh).tk.getD i 0=ws (sh.table/8+i):=by
 show(wordsAt ws (sh.table/8) sh.BI).getD i 0=_;have hl:i<(wordsAt ws (sh.table/8) sh.BI).length:=by simpa [wordsAt]using hi
 rw [Bh,List.getElem?_eq_getElem hl,Gn];rfl
theorem Vl(i:Nat):hdN (Ee ws sh) i=0:=by
 unfold hdN Ee;simp only [Bh,List.getElem?_replicate];split<;>rfl
theorem qZ(o d:Nat):¬EI (Ee ws sh) o d:=by
 rintro⟨i,a,_,ha,_⟩;rw [Vl,EE]at ha;cases ha
theorem rq(hs:shapeOf L=some sh)(hL:L<=1024)(hall:∀i,i<sh.BI->ES (ws (sh.table/8+i)).toNat=true):BA L (Ee ws sh):=
 ⟨FI hs,hL,by simp [Ee,wordsAt],by simp [Ee],fun i hi=>(VZ _ (by unfold GR;exact UInt64.toNat_lt _)).1 (by unfold GR;rw [qY (ws:=ws) (sh:=sh) hi];exact hall i hi),fun i _=> .inl (Vl i),fun i _=> .inr (.inl (Vl i)),fun i a _ _=>by rw [Vl,EE],
  fun i hi=>by rw [qY (ws:=ws) (sh:=sh) hi,(FI hs).table];rfl⟩
end
theorem Ahb(s:St):(Dx s).length<=16*s.tk.length:=by
 unfold Dx;generalize s.tk.length=n;induction n with
 | zero=>simp
 | succ n ih=>
   rw [List.range_succ,List.flatMap_append,AQ];have:(IE (GR s n)).length<=16:=Bg (List.length_filter_le _ _) (by simp [FY]);simp only [List.flatMap_cons,List.flatMap_nil,List.append_nil,BH];omega
theorem Akb:Ak7:=by
 intro w d L own Y s0 s items ch hL0 hL hD hT g1 g2 hsh h8 hlo h0 hst h60;exact Adb hL0 hL hD hT g1 g2 hsh h8 hlo h0 hst h60 fun W p x F hx hy _=>(gm hx hy (s.ws 8)).mono fun e W1⟨he,s1,F1,hx1,hbt,hm⟩=>⟨he,F1,(hbt.2.1 hst)▸hx1,hm⟩
def Uo(ws:Nat->UInt64)(sh:Sh):Prop:=(∀i,i<sh.BI->ES (ws (sh.table/8+i)).toNat=true)/\(∃r,Nw (Ee ws sh)=some r)/\(ws 8).toNat<=60000
def Akc:Value:= .agg #[.pointer none,.pointer none,.int .u64 0]
def Adg(d L:Nat)(ws:Nat->UInt64)(own:Nat->Prop)(sh:Sh)(ch:List UInt8->List Lk)(w:World)(e:Ending)(w':World):Prop:=
 (¬Uo ws sh/\e= .returned (.tuple #[Akc,.int .i64 5])/\Below w.heap.size w w')\/
 (Uo ws sh/\∃p x F s items',e= .returned (.tuple #[.agg #[Aw p,Aw x,.int .u64 ((ws 8).toNat:Int)],.int .i64 0])/\Ix w' x d p L s F/\
  Du L s items' (fun k=>(ch k).dropWhile (newer (ws 8).toNat))/\RV (Ee ws sh) s/\Touch own w w'/\∀b,F b->own b\/w.heap.size<=b)
theorem Ahc{slot L:Nat}{s0 s:St}{items:List Kv}{ch:List UInt8->List Lk}(h:Qs slot L s0 items ch items.length s)(hn:∀k,(∀kv∈items,kv.1≠k)->ch k=[]):RV s0 s/\∃Y' items',EW Y' L s items' (fun k=>(ch k).dropWhile (newer slot)):=by
 obtain⟨h1,_,Y',items',h2,_⟩:=h;refine⟨h1,Y',items',?_⟩;have:bkC slot ch ((items.take items.length).map (·.1))=fun k=>(ch k).dropWhile (newer slot):=funext fun k=>by
  unfold bkC;split
  ·rfl
  ·rename_i h3;rw [List.take_length]at h3;rw [hn k (fun kv hkv e=>h3 (Bf.2 ⟨kv,hkv,e⟩))];rfl
 exact this▸h2
theorem Qu{w W:World}(h:Below w.heap.size w W)(v0 v1 v2:Value):Below w.heap.size w (((W.setCell ⟨w.heap.size,0,none⟩ v0).setCell ⟨w.heap.size,1,none⟩ v1).setCell ⟨w.heap.size,2,none⟩ v2):=
 h.trans (((((Touch.refl (fun k=>k=w.heap.size) W).setCell (p:=⟨w.heap.size,0,none⟩) (.inl rfl) v0).setCell (p:=⟨w.heap.size,1,none⟩) (.inl rfl) v1).setCell (p:=⟨w.heap.size,2,none⟩) (.inl rfl) v2).below h.size (fun _ e=>Nat.le_of_eq e.symm))
section
variable{w:World}{d L:Nat}{ws:Nat->UInt64}{own Y:Nat->Prop}{sh:Sh}{items:List Kv}{ch:List UInt8->List Lk}
theorem Adh(hL0:0<L)(hL:L<=1024)(hsh:shapeOf L=some sh)(h:Dev w d L ws M0 (fun _=>0) own)(hT:Tabs w)(g1:¬own 0)(g2:¬own 1)(h8:wordsAt ws 0 8=wordsOf sh)(hfew:sh.BI<=18)
 (hst:Uo ws sh->EW Y L (Ee ws sh) items ch):
 Calls Tryz.prog 8 #[Aw d] w (Adg d L ws own sh ch w):=by
 obtain⟨w1,hw1,hb1,hB1⟩:=FB w 30 [.pointer none,.pointer none,.int .u64 0];have uX:=Aa hB1;have HO:=Aa (Tq hL0 hL hsh (by decide) (h.below hb1) (hT.below hb1) g1 g2 h8);have HB1:=Aa hb1;have HW1:=Aa hw1;have hs1:w1.heap.size=w.heap.size+1:=by rw [hw1];simp
 have jB:=Aa hT.lt;have YU:Hid (∀b,own b->b<w.heap.size):=Aa (fun b hb=>h.lt b hb);have HLe:Hid (8<8*L):=Aa (by have:=(FI hsh).fits;have:=(FI hsh).MK;have:=(FI hsh).BI;omega);have HRg:Hid ((∀i,i<sh.BI->ES (ws (sh.table/8+i)).toNat=true)->∀(W:World)(p x:Nat)(F:Nat->Prop),Ix W x d p L (Ee ws sh) F->∀r,DU (Ee ws sh)=some r->Calls Tryz.prog 10 #[Aw d,Aw p,Aw x] W (fU (Ee ws sh) W)):=Aa (fun hall W p x F hx r hr=>by
  obtain⟨its,met⟩:=r;have ok:=rq hsh hL hall;refine ZX hx hr fun k acc hk ha=> ?_
  have h1:=qX ok ha;obtain⟨it2,bl,e1,e2,e3,e4,e5,_⟩:=WB ok qZ hr;have h2:=EX bl (Dx (Ee ws sh)) e3 (fun o ho=>(Ia ok o).2 (e4 o ho));have h3:(Dx (Ee ws sh)).length<=300:=by
   have:=Ahb (Ee ws sh);have h4:(Ee ws sh).tk.length=sh.BI:=by simp [Ee,wordsAt]
   omega
  have h5:(Dc met).length<=300:=by rw [JZ,e2,BH];omega
  have h6:(its.take k).length<=300:=by rw [DC,e1,BH];omega
  have h7:(its.take k).length*(Dx (Ee ws sh)).length<=300*300:=Nat.mul_le_mul h6 h3;omega)
 by_cases hok:Uo ws sh
 ·have hs:=hst hok;obtain⟨hall,⟨r,hr⟩,hsl⟩:=hok;have iQ:Uo ws sh:=⟨hall,⟨r,hr⟩,hsl⟩;obtain⟨met,hsv,_⟩:=RP hs.ix;refine(fV (s:=Ee ws sh) (Z:=own) (G:=fun s'=>RV (Ee ws sh) s'/\∃items',Du L s' items' (fun k=>(ch k).dropWhile (newer (ws 8).toNat))) hL0 hL hsh h hT g1 g2 h8 hall rfl hsv hsl (fun W p x F hx=>(HRg.out hall _ _ _ _ hx _ hsv).mono ?_) (fun W p x F hx hsz hF=>(gm hx hs (ws 8)).mono ?_)).mono ?_
  ·rintro e w4⟨hb4,XZ⟩;rw [hr]at XZ;obtain⟨v4,rfl,aQ⟩:=XZ;obtain⟨A4,c4,rfl,_,_⟩:=DN aQ;exact⟨⟨A4,_,c4,rfl⟩,hb4⟩
  ·rintro e w6⟨rfl,s6,F6,hx6,hbt,Vu⟩;obtain⟨hlo,Y6,it6,hy6⟩:=Ahc hbt hs.none;refine⟨rfl,s6,F6,hx6,Vu,Vu.touch.mono hF,(qW hx6 hy6).mono ?_⟩;rintro e w7⟨rfl,s7,F7,hx7,hso,Avb,Avc,wC, -⟩;exact⟨rfl,s7,F7,hx7,wC,wC.touch.mono (fun b hb=>(Vu.own b hb).elim (hF b) (fun h=> .inr (Bg hsz h))),hlo.trans ⟨Avb,fun j h1 _=>Avc j h1⟩,it6,hso⟩
  ·rintro e w'⟨p,x,F,s',rfl,hx,⟨hlo,it,hso⟩,ht,hF,_⟩;exact .inr ⟨iQ,p,x,F,s',it,rfl,hx,hso,hlo,ht,hF⟩
 ·have HN:=Aa hok;have HK:Hid (∀W,Below w1.heap.size w1 W->W.cell? ⟨w.heap.size,0,none⟩=some (.pointer none)/\W.cell? ⟨w.heap.size,1,none⟩=some (.pointer none)/\W.cell? ⟨w.heap.size,2,none⟩=some (.int .u64 0)/\W.frozen? ⟨w.heap.size,0,none⟩=false/\W.frozen? ⟨w.heap.size,1,none⟩=false/\W.frozen? ⟨w.heap.size,2,none⟩=false):=Aa (fun W k=>by
   have h1:=uX.out.below k uX.out.lt;exact⟨h1.cell 0,h1.cell 1,h1.cell 2,h1.frozen 0,h1.frozen 1,h1.frozen 2⟩)
  clear h hT g1 g2 h8 hst hw1 hb1 hB1 hsh hfew hok;by_cases hall:∀i,i<sh.BI->ES (ws (sh.table/8+i)).toNat=true
  ·have XW:=Aa hall;clear hall;go_enter Tryz.func8,Tryz.ntmps8
   go_wp2_with fail
   rw [<-HW1.out];refine HO.out.mono ?_;rintro e w2⟨hb2,hp2,_⟩;obtain⟨p,F,rfl,hsy2,hF2⟩:=hp2 XW.out;have Ala:Sys w2 d p L (Ee ws sh) F:=hsy2;have HB2:=Aa hb2;have HOx:=Aa (Um Ala);clear HO hsy2 Ala hb2 hF2 hp2
   go_wp2_with fail
   refine HOx.out.mono ?_;rintro e w3⟨hb3,hp3⟩;have HB3:=Aa (HB2.out.trans (hb3.mono HB2.out.size));cases hsv:DU (Ee ws sh)with
   | none=>
     rw [hsv]at hp3;replace hp3:e= .returned (.tuple #[.pointer none,.int .i64 5]):=hp3;subst hp3;obtain⟨y0,y1,y2,f0,f1,f2⟩:=HK.out _ HB3.out;clear HOx hb3 hsv HRg
     go_wp2_with fail
     refine bodyPost_ret (v:= .tuple #[.agg #[.pointer none,.pointer none,.int .u64 0],.int .i64 5]) (by simp [results,Tryz.results8,go_sem,y0,y1,y2]) rfl ?_;exact .inl ⟨HN.out,rfl,Qu (HB1.out.trans (HB3.out.mono HB1.out.size)) _ _ _⟩
   | some r=>
     rw [hsv]at hp3;obtain⟨x,rfl,hx3,hxs⟩:=(hp3:∃x,e= .returned (.tuple #[Aw x,.int .i64 0])/\Ix w3 x d p L (Ee ws sh) F/\w2.heap.size<=x);have HX3:=Aa hx3;have HR3:=Aa (HRg.out XW.out _ _ _ _ hx3 _ hsv);clear HOx hb3 hx3 hxs HRg hsv
     go_wp2_with fail
     refine HR3.out.mono ?_;rintro e w4⟨hb4,XZ⟩;have HB4:=Aa (HB3.out.trans (hb4.mono HB3.out.size));cases hr:Nw (Ee ws sh)with
     | none=>
       rw [hr]at XZ;replace XZ:e= .returned (.tuple #[.slice none 0 0,.int .i64 5]):=XZ;subst XZ;obtain⟨y0,y1,y2,f0,f1,f2⟩:=HK.out _ HB4.out;clear HR3 hb4 hr
       go_wp2_with fail
       refine bodyPost_ret (v:= .tuple #[.agg #[.pointer none,.pointer none,.int .u64 0],.int .i64 5]) (by simp [results,Tryz.results8,go_sem,y0,y1,y2]) rfl ?_;exact .inl ⟨HN.out,rfl,Qu (HB1.out.trans (HB4.out.mono HB1.out.size)) _ _ _⟩
     | some r'=>
       rw [hr]at XZ;obtain⟨v4,rfl,aQ⟩:=XZ;have hsl:60000<(ws 8).toNat:=QK fun h=>HN.out ⟨XW.out,⟨r',hr⟩,h⟩
       have t6:decide ((60000:Int)<((ws 8).toNat:Int))=true:=decide_eq_true (by omega);have t7:decide (60000<(ws 8).toNat)=true:=decide_eq_true hsl;have HLd:=Aa ((HX3.out.below hb4).sys.load 8 HLe.out);rw [show(Ee ws sh).ws 8=ws 8 from rfl,show((8*8:Nat):Int)=64 from rfl]at HLd;clear HR3 hb4 aQ hr hsl
       go_wp2_with fail
       refine HLd.out.mono ?_;rintro e w5⟨rfl,rfl⟩;obtain⟨y0,y1,y2,f0,f1,f2⟩:=HK.out _ HB4.out;clear HLd
       go_wp2_with fail
       refine bodyPost_ret (v:= .tuple #[.agg #[.pointer none,.pointer none,.int .u64 0],.int .i64 5]) (by simp [results,Tryz.results8,go_sem,y0,y1,y2]) rfl ?_;exact .inl ⟨HN.out,rfl,Qu (HB1.out.trans (HB4.out.mono HB1.out.size)) _ _ _⟩
  ·have HNa:Hid (∃i,i<sh.BI/\¬ES (ws (sh.table/8+i)).toNat=true):=Aa (by
   rcases Classical.not_forall.1 hall with⟨i,hi⟩
   rcases Classical.not_imp.1 hi with⟨h1,h2⟩
   exact⟨i,h1,h2⟩)
   clear hall HRg;go_enter Tryz.func8,Tryz.ntmps8
   go_wp2_with fail
   rw [<-HW1.out];refine HO.out.mono ?_;rintro e w2⟨hb2,_,hp2⟩;have hp3:=hp2 HNa.out;subst hp3;have HB2:=Aa hb2;obtain⟨y0,y1,y2,f0,f1,f2⟩:=HK.out _ hb2;clear HO hb2 hp2
   go_wp2_with fail
   refine bodyPost_ret (v:= .tuple #[.agg #[.pointer none,.pointer none,.int .u64 0],.int .i64 5]) (by simp [results,Tryz.results8,go_sem,y0,y1,y2]) rfl ?_;exact .inl ⟨HN.out,rfl,Qu (HB1.out.trans (HB2.out.mono HB1.out.size)) _ _ _⟩
end
