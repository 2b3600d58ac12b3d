import Derived.Shelf.SlIterI.Nil
import Derived.Shelf.SortM.Plain
import Derived.Shelf.SortM.SortNone
import Derived.Test.YtfmkofmaabgbkaaGreatDoorJ28
set_option linter.defProp false
set_option maxHeartbeats 32000000
set_option maxRecDepth 100000
open Array renaming replicate->Ag8
open Nat renaming le_trans->Bq
open List renaming set_cons_succ->Au,take_append_drop->He,nil_append->EK,getElem_toArray->Aq,getElem_cons_zero->Ai,setIfInBounds_toArray->Af,set_cons_zero->Ak,getElem_cons_succ->Aj
open Go.Lib renaming hid->Ac
open Go.World renaming cell?_of_block->BI
open Go.Value renaming slice->fD,int->fP,string->fQ,bool->fU
open Go.Ending renaming returned->gY
open Go.IntKind renaming i64->gZ
open Option renaming some->iC
open Bool renaming true->jm,false->jw
open Go renaming World->jD
namespace Go.Proofs.YtfmkofmaabgbkaaGreatDoor
open Go.Proofs.Tryz
section
open Go.Shelf
def Tryz.keysA_ren:Go.Shelf.Ren:=⟨fun|7=>154|10=>178|n=>n,fun|23=>187|26=>3|3=>3|28=>267|0=>0|27=>266|33=>117|4=>4|n=>n,fun|n=>n⟩
def Tryz.keysA:Go.Proofs.SlLaysZI.n7 prog Tryz.keysA_ren:={
 mixed:=by kernel_rfl
 f7:=⟨Tryz.f154.name,by decide,func154.trans (congrArg iC Γ)⟩
 f10:=⟨Tryz.f178.name,by decide,func178.trans (congrArg iC Γ)⟩
 t0:=underlying0
 a0:=Tryz.isAgg0
 z0:=Tryz.sizeOf0
 v0:=Tryz.zeroValue0
 t4:=underlying4
 a4:=Tryz.isAgg4
 z4:=Tryz.sizeOf4
 v4:=Tryz.zeroValue4
 t23:=underlying187
 a23:=Tryz.isAgg187
 z23:=Tryz.sizeOf187
 v23:=Tryz.zeroValue187
 t26:=underlying3
 a26:=Tryz.isAgg3
 z26:=Tryz.sizeOf3
 v26:=Tryz.zeroValue3
 t27:=underlying266
 a27:=Tryz.isAgg266
 z27:=Tryz.sizeOf266
 v27:=Tryz.zeroValue266
 t28:=underlying267
 a28:=Tryz.isAgg267
 z28:=Tryz.sizeOf267
 v28:=Tryz.zeroValue267
 t33:=underlying117
 a33:=Tryz.isAgg117
 z33:=Tryz.sizeOf117
 v33:=Tryz.zeroValue117}
def Tryz.sortedA_ren:Go.Shelf.Ren:=⟨fun|6=>153|8=>177|9=>118|11=>206|13=>156|12=>155|23=>187|24=>188|14=>179|15=>180|16=>181|17=>182|18=>183|19=>184|20=>160|21=>185|22=>186|25=>207|26=>208|27=>209|28=>210|29=>211|30=>191|31=>222|n=>n,fun|26=>3|28=>267|24=>42|0=>0|3=>3|37=>262|48=>139|50=>40|4=>4|40=>296|39=>295|45=>167|5=>5|9=>9|51=>320|55=>323|57=>338|58=>339|33=>117|n=>n,fun|n=>n⟩
def Tryz.sortedA:Go.Proofs.SlLaysZI.n6 prog Tryz.sortedA_ren:={
 mixed:=by kernel_rfl
 f6:=⟨Tryz.f153.name,by decide,func153.trans (congrArg iC Γ)⟩
 f8:=⟨Tryz.f177.name,by decide,func177.trans (congrArg iC Γ)⟩
 f11:=⟨Tryz.f206.name,by decide,func206.trans (congrArg iC Γ)⟩
 t0:=underlying0
 a0:=Tryz.isAgg0
 z0:=Tryz.sizeOf0
 v0:=Tryz.zeroValue0
 t24:=underlying42
 a24:=Tryz.isAgg42
 z24:=Tryz.sizeOf42
 v24:=Tryz.zeroValue42
 t26:=underlying3
 a26:=Tryz.isAgg3
 z26:=Tryz.sizeOf3
 v26:=Tryz.zeroValue3
 t28:=underlying267
 a28:=Tryz.isAgg267
 z28:=Tryz.sizeOf267
 v28:=Tryz.zeroValue267
 i26:=by kernel_rfl}
def Tryz.Af5:Go.Shelf.Ren:=⟨fun|5=>118|8=>156|7=>155|19=>187|20=>188|10=>179|11=>180|12=>181|13=>182|14=>183|15=>184|16=>160|17=>185|18=>186|30=>207|31=>208|32=>209|33=>210|34=>211|35=>191|40=>222|n=>n,fun|23=>42|25=>3|3=>3|32=>262|22=>42|0=>0|44=>139|46=>40|4=>4|36=>296|35=>295|41=>167|5=>5|9=>9|53=>320|57=>323|63=>338|64=>339|n=>n,fun|n=>n⟩
def Tryz.sortA:Go.Proofs.SlLaysM.n5 prog Tryz.Af5:={
 mixed:=by kernel_rfl
 f5:=⟨Tryz.f118.name,by decide,func118.trans (congrArg iC Γ)⟩
 f7:=⟨Tryz.f155.name,by decide,func155.trans (congrArg iC Γ)⟩
 f8:=func156.trans (congrArg iC Γ)
 f10:=⟨Tryz.f179.name,by decide,func179.trans (congrArg iC Γ)⟩
 f11:=⟨Tryz.f180.name,by decide,func180.trans (congrArg iC Γ)⟩
 f12:=⟨Tryz.f181.name,by decide,func181.trans (congrArg iC Γ)⟩
 f13:=⟨Tryz.f182.name,by decide,func182.trans (congrArg iC Γ)⟩
 f14:=⟨Tryz.f183.name,by decide,func183.trans (congrArg iC Γ)⟩
 f15:=⟨Tryz.f184.name,by decide,func184.trans (congrArg iC Γ)⟩
 f16:=⟨Tryz.f160.name,by decide,func160.trans (congrArg iC Γ)⟩
 f17:=⟨Tryz.f185.name,by decide,func185.trans (congrArg iC Γ)⟩
 f18:=⟨Tryz.f186.name,by decide,func186.trans (congrArg iC Γ)⟩
 f19:=func187.trans (congrArg iC Γ)
 f20:=func188.trans (congrArg iC Γ)
 f30:=⟨Tryz.f207.name,by decide,func207.trans (congrArg iC Γ)⟩
 f31:=func208.trans (congrArg iC Γ)
 f32:=func209.trans (congrArg iC Γ)
 f33:=⟨Tryz.f210.name,by decide,func210.trans (congrArg iC Γ)⟩
 f34:=⟨Tryz.f211.name,by decide,func211.trans (congrArg iC Γ)⟩
 f35:=⟨Tryz.f191.name,by decide,func191.trans (congrArg iC Γ)⟩
 f40:=⟨Tryz.f222.name,by decide,func222.trans (congrArg iC Γ)⟩
 t0:=underlying0
 a0:=Tryz.isAgg0
 z0:=Tryz.sizeOf0
 v0:=Tryz.zeroValue0
 t3:=underlying3
 a3:=Tryz.isAgg3
 z3:=Tryz.sizeOf3
 v3:=Tryz.zeroValue3
 t4:=underlying4
 a4:=Tryz.isAgg4
 z4:=Tryz.sizeOf4
 v4:=Tryz.zeroValue4
 t5:=underlying5
 a5:=Tryz.isAgg5
 z5:=Tryz.sizeOf5
 v5:=Tryz.zeroValue5
 t9:=underlying9
 a9:=Tryz.isAgg9
 z9:=Tryz.sizeOf9
 v9:=Tryz.zeroValue9
 t22:=underlying42
 a22:=Tryz.isAgg42
 z22:=Tryz.sizeOf42
 v22:=Tryz.zeroValue42
 t23:=underlying42
 a23:=Tryz.isAgg42
 z23:=Tryz.sizeOf42
 v23:=Tryz.zeroValue42
 t25:=underlying3
 a25:=Tryz.isAgg3
 z25:=Tryz.sizeOf3
 v25:=Tryz.zeroValue3
 t32:=underlying262
 a32:=Tryz.isAgg262
 z32:=Tryz.sizeOf262
 v32:=Tryz.zeroValue262
 t35:=underlying295
 a35:=Tryz.isAgg295
 z35:=Tryz.sizeOf295
 v35:=Tryz.zeroValue295
 t36:=underlying296
 a36:=Tryz.isAgg296
 z36:=Tryz.sizeOf296
 v36:=Tryz.zeroValue296
 t41:=underlying167
 a41:=Tryz.isAgg167
 z41:=Tryz.sizeOf167
 v41:=Tryz.zeroValue167
 t44:=underlying139
 a44:=Tryz.isAgg139
 z44:=Tryz.sizeOf139
 v44:=Tryz.zeroValue139
 t46:=underlying40
 a46:=Tryz.isAgg40
 z46:=Tryz.sizeOf40
 v46:=Tryz.zeroValue40
 t53:=underlying320
 a53:=Tryz.isAgg320
 z53:=Tryz.sizeOf320
 v53:=Tryz.zeroValue320
 t57:=underlying323
 a57:=Tryz.isAgg323
 z57:=Tryz.sizeOf323
 v57:=Tryz.zeroValue323
 t63:=underlying338
 a63:=Tryz.isAgg338
 z63:=Tryz.sizeOf338
 v63:=Tryz.zeroValue338
 t64:=underlying339
 a64:=Tryz.isAgg339
 z64:=Tryz.sizeOf339
 v64:=Tryz.zeroValue339}
end
section
section
variable{P:Program}{ops:Array Oper}{Q:Exit->Act->jD->Prop}{n l0:Nat}
def YE(Q:Exit->Act->jD->Prop):Exit->Act->jD->Prop:=λa b w=>a≠.outgrown/\Q a b w
def YE.not:¬LetsOut (YE Q):=λ⟨_,_,h,_⟩=>h rfl
def eX{o:Oper}{a:Act}{K f:Act->jD->Prop}(b:∀a w,K a w->f a w){r:Result Next}(h:o.upon P a K (YE Q) r):o.uponIn (Fence.wide.inRound l0) n P a f Q r:=by
 cases r with
 |ok x w'=>
  cases x with
  |value v=>exact b _ _ h
  |skip=>exact b _ _ h
  |defer d=>exact b _ _ h
  |enter l c=>
   refine⟨λh=>(by cases h),CallsIn.inRound l0 ((callsIn_wide.2 (show Calls P l c w' _ from h)).mono ?_)⟩;intro k i e;cases k with
   |returned v=>exact b _ _ e
   |panicked g=>exact e.2
   |outgrown=>exact(YE.not e).elim
  |row row c=>exact⟨λh=>(by cases h),λg j _=>let⟨v,i,m,s⟩:=(show Rows P row c w' _ from h) g j;⟨v,i,b _ _ m,stepsIn_wide.2 s⟩⟩
  |_=>exact h.elim
 |halt x w'=>
  cases x with
  |panic v=>exact h.2
  |_=>exact h.elim
def JJ(b:∀e∈ops,∀g,e.op≠.defer g):∀(l:List Nat)(a:Act)(w:jD),wpOps P ops (YE Q) l a w->wpOpsIn (Fence.wide.inRound l0) n P ops Q l a w
 |[],_,_,h=>h.2
 |i::f,a,w,h=>by
  unfold wpOps at h;unfold wpOpsIn;cases c:ops[i]? with
  |none=>rw[c]at h;exact JJ b f _ _ h
  |some e=>
   rw[c]at h;simp only at h⊢;split at h
   ·rename_i d;rw[jM d];rcases h with h|⟨_,h⟩
    ·refine⟨λ_ _=>trivial,?_⟩;rw[show(Fence.wide.inRound l0).round=iC l0 from rfl,Oper.semAt_some l0 _ _ (b e (Array.mem_of_getElem? c))];exact eX (JJ b f) h
    ·exact(YE.not h).elim
   ·rename_i d;rw[ku d];exact⟨λ_ _=>trivial,JJ b f _ _ h⟩
def oW(ops:Array Oper):Bool:=ops.all λa=>match a.op with| .defer _=>jw|_=>jm
def oZ(h:oW ops=jm):∀a∈ops,∀b,a.op≠.defer b:=λa d b c=>by
 have:=Array.all_eq_true_iff_forall_mem.1 h a d;rw[c]at this;cases this
def WX{S:jD->Prop}{id:Nat}{a:Act}{w:jD}(c:P.follows .mixedOrders=jm)(b:oW ops=jm)
 (h:wpAnyH P .any ops (YE Q) S ops.size (Ag8 ops.size jw) a {w with drawn:=w.drawn+1}):(Code.region id ops jm).wpIn (Fence.wide.inRound l0) n P Q a w:=
 wpIn_region_draw λd=>by
  simp only[Region.schedule,c,Bool.true_or,if_true];exact JJ (oZ b) _ _ _ (wpAny_sound ops.size d _ a _ (wpAny_of_held _ _ _ _ h))
def LG{S:jD->Prop}{id:Nat}{a:Act}{w:jD}(d:P.follows .mixedOrders=jm)(c:oW ops=jm)(b:S w.drew)
 (h:S w.drew->wpAnyH P .any ops (YE Q) S ops.size (Ag8 ops.size jw) a w.drew):(Code.region id ops jm).wpIn (Fence.wide.inRound l0) n P Q a w:=
 WX d c (h b)
end
open Go.RowKit
def Ux{w:jD}{a base' k n:Nat}{e:TypeId}{v:Value}{xs:List Value}(h:w.ownsRow a e k v n xs)(j:base'<=a):w.ownsRow base' e k v n xs:=
 ⟨h.1,h.2.imp id λ⟨i,f,g,b,c,d⟩=>⟨i,f,g,b,Bq j c,d⟩⟩
def vY:∀(s:List Wr)(k:Nat)(x:Wr),k<s.length->(((Gf s).set (k*3) (fQ x.key)).set (k*3+1) (fQ x.text)).set (k*3+2) (fU x.gone)=Gf (s.set k x)
 |a::b,0,x,_=>by simp[Gf,wrC]
 |a::b,k+1,x,h=>by
  have e:=vY b k x (by simpa using h);have c:Gf (a::b)=fQ a.key:: fQ a.text:: fU a.gone::Gf b:=by simp[Gf,wrC]
  have d:Gf ((a::b).set (k+1) x)=fQ a.key:: fQ a.text:: fU a.gone::Gf (b.set k x):=by simp[Gf,wrC]
  rw[c,d,show(k+1)*3=k*3+1+1+1 by omega];simp only[Au];rw[e]
def Af6(s:List Wr)(k:Nat)(a:k<=s.length):(Gf s).take (k*3)=Gf (s.take k):=by
 have h:=WG (s.take k) (s.drop k);rw[He]at h;rw[h,List.take_append_of_le_length (by rw[OT];simp;omega),List.take_of_length_le (by rw[OT];simp;omega)]
def Af7(s:List Wr)(k:Nat)(b:k<=s.length):(Gf s).drop (k*3)=Gf (s.drop k):=by
 have h:=WG (s.take k) (s.drop k);rw[He]at h;have a:(Gf (s.take k)).length=k*3:=by rw[OT];simp;omega
 rw[h,List.drop_append_of_le_length O1,<-a,List.drop_length,EK]
section
variable{w:jD}{G:Nat->Prop}{v:Value}{s:List Wr}
def vZ(h:FI w G v s)(I:s.length<=16)(x:Wr)(A:x.key.size<=4294967296)(C:x.text.size<=4294967296)(g:Du x=jw):
 Calls prog 125 #[v,OU x] w λe w'=>∃c,e=gY (.tuple #[c,fP gZ (Ip s x).2])/\w'.ownsRow w.heap.size 100 3 c (Ip s x).1.length (Gf (Ip s x).1)/\η w w':=by
 obtain⟨b,f,m,i⟩:=newB w 100 [fQ x.key,fQ x.text,fU x.gone];have a:=Ac (λb=>QC x b A C);rw[g]at a;have z:=Ac (λb(D:η w b)=>Oy (h.below D) O1);obtain⟨E,F,rfl,H,B⟩:=h;have k:=Ac m;have u:=Ac f;obtain⟨p,q,r⟩:=i.p3;rw[f]at p q r;unfold OU at a⊢;have j:Hid (Ip s x=(s,2)):=Ac (by unfold Ip;rw[jM g]);clear g i m f B;go_enter func125,ntmps125
 go_wp2_with fail
 rw[<-u.out];refine(a _).mono ?_;rintro e J⟨rfl,n⟩;have d:=Ac (τ k.out n);clear a n k p q r
 go_wp2_with fail
 refine(z _ d.out).mono ?_;rintro e K⟨c,rfl,l,o⟩;have t:=Ac (Ux l d.size);have y:=Ac (τ d.out o);clear l o
 go_wp2_with fail
 go_ret2;exact⟨c,by rw[j.out];rfl,by rw[j.out];exact t.out,y.out⟩
def pg(h:FI w G v s)(W:s.length<=16)(x:Wr)(R:x.key.size<=4294967296)(S:x.text.size<=4294967296)(r:Du x=jm)(J:WA s)(q:jA s x.key=jw)(H:16<=s.length):
 Calls prog 125 #[v,OU x] w λg w'=>∃i,g=gY (.tuple #[i,fP gZ (Ip s x).2])/\w'.ownsRow w.heap.size 100 3 i (Ip s x).1.length (Gf (Ip s x).1)/\η w w':=by
 obtain⟨a,n,D,j⟩:=newB w 100 [fQ x.key,fQ x.text,fU x.gone];have f:=Ac (λa=>QC x a R S);rw[r]at f;have P:=Ac (λa(t:η w a)=>Oy (h.below t) O1);obtain⟨U,Q,rfl,V,I⟩:=h;have T:=Ac I.1;have u:=Ac j;have A:=Ac D;have M:=Ac n;obtain⟨b,c,d⟩:=j.p3;rw[n]at b c d;unfold OU at f⊢;have z:Hid (Ip s x=(s,3)):=Ac (by unfold Ip;rw[ku (by rw[r];decide),ku (by rw[q];decide),jM H]);have e:=Ac (λa(t:η w a)=>WJ (c:=Q) x.key O1 (Rd.below T.out t) J);rw[q]at e;obtain⟨B,F⟩:∃B,Gl s x.key=B:=⟨_,rfl⟩;rw[F]at e;have t1:decide ((16:Int)<=(s.length:Int))=true:=decide_eq_true O1;clear r q J F H j D n I;go_enter func125,ntmps125
 go_wp2_with fail
 rw[<-M.out];refine(f _).mono ?_;rintro g X⟨rfl,o⟩;have k:=u.out.ξ o;have l:=Ac (τ A.out o);clear b c d;obtain⟨b,c,d⟩:=k.p3;have y:=Ac k;clear f o k u A
 go_wp2_with fail
 refine(e _ l.out).mono ?_;rintro g Y⟨rfl,p⟩;have m:=Ac (τ l.out p);have K:=Ac (y.out.ξ p);clear b c d;obtain⟨b,c,d⟩:=K.p3;clear e p y l
 go_wp2_with fail
 refine(P _ m.out).mono ?_;rintro g Z⟨i,rfl,C,E⟩;have L:=Ac (Ux C m.size);have N:=Ac (τ m.out E);clear C E
 go_wp2_with fail
 go_ret2;exact⟨i,by rw[z.out];rfl,by rw[z.out];exact L.out,N.out⟩
def wo(h:FI w G v s)(aW:s.length<=16)(x:Wr)(al:x.key.size<=4294967296)(am:x.text.size<=4294967296)(H:Du x=jm)(V:WA s)(n:jA s x.key=jm):
 Calls prog 125 #[v,OU x] w λk w'=>∃o,k=gY (.tuple #[o,fP gZ (Ip s x).2])/\w'.ownsRow w.heap.size 100 3 o (Ip s x).1.length (Gf (Ip s x).1)/\η w w':=by
 obtain⟨f,C,S,r⟩:=newB w 100 [fQ x.key,fQ x.text,fU x.gone];have i:=Ac (λf=>QC x f al am);rw[H]at i;have P:=Ac (λf(I:η w f)=>Oy (h.below I) O1);obtain⟨aE,ab,rfl,aV,U⟩:=h;have ap:=Ac U.1;have K:=Ac r;have N:=Ac S;have Y:=Ac C;obtain⟨c,d,e⟩:=r.p3;rw[C]at c d e;unfold OU at i⊢;have y:Hid (Ip s x=(s.set (Gl s x.key) x,0)):=Ac (by unfold Ip;rw[ku (by rw[H];decide),jM n]);have g:=Ac (λf(I:η w f)=>WJ (c:=ab) x.key O1 (Rd.below ap.out I) V);rw[n]at g;have m:=zq n;obtain⟨a,T⟩:∃a,Gl s x.key=a:=⟨_,rfl⟩;rw[T]at g y m;obtain⟨t1,t2⟩:=qy m;clear H n V T r S C U;go_enter func125,ntmps125
 go_wp2_with fail
 rw[<-Y.out];refine(i _).mono ?_;rintro k a2⟨rfl,D⟩;have t:=K.out.ξ D;have z:=Ac (τ N.out D);clear c d e;obtain⟨c,d,e⟩:=t.p3;have L:=Ac t;clear i D t K N
 go_wp2_with fail
 refine(g _ z.out).mono ?_;rintro k ar⟨rfl,E⟩;have j:=Ac (τ z.out E);have M:=Ac (L.out.ξ E);clear c d e;obtain⟨c,d,e⟩:=M.p3;clear g E L z
 go_wp2_with fail
 refine(P _ j.out).mono ?_;rintro k J⟨o,rfl,B,F⟩;obtain⟨b,Q,rfl,ah⟩:∃b Q,o=fD (iC (Φ b)) s.length Q/\ar.heap.size<=b:=by
  rcases B.2 with⟨_,l⟩|⟨ae,ac,aM,A,l,_⟩
  ·omega
  ·exact⟨ae,ac,A,l⟩
 have u:=Ac (Ux B j.size);have Z:=Ac (τ j.out F);have X:=Ac (M.out.ξ F);have aR:=u.frozenAt;clear c d e;obtain⟨c,d,e⟩:=X.p3;have an:J.cell? (Δ b (a*3))=iC (fQ s[a].key)/\J.cell? (Δ b (a*3+1))=iC (fQ s[a].text)/\J.cell? (Δ b (a*3+2))=iC (fU s[a].gone):=by
  obtain⟨aF,aL,R,_,aq⟩:=own_rowk u.out;obtain⟨aJ,a1,ad,_,av⟩:=jO aq a m;subst ad;simp only[Value.slice.injEq,Option.some.injEq,Addr.mk.injEq]at R;obtain⟨⟨A,l,_⟩,_⟩:=R;subst A l;simpa using av
 obtain⟨aw,az,aD⟩:=an;generalize s[a].key=a0,s[a].text=aZ,s[a].gone=aX at aw az aD;clear B F P;have q:w.heap.size<=b:=Bq j.size ah;have aa:=Ac m
 go_wp2_with fail
 have W:=(((u.stored (a*3) (fQ x.key)).1.stored (a*3+1) (fQ x.text)).1.stored (a*3+2) (fU x.gone)).1;have ao:=((Z.setCell (p:=Δ b (a*3)) q (fQ x.key)).setCell (p:=Δ b (a*3+1)) q (fQ x.text)).setCell (p:=Δ b (a*3+2)) q (fU x.gone);rw[vY s a x aa.out]at W;go_ret2;exact⟨_,by rw[y.out];rfl,by rw[y.out];simpa using W,ao⟩
def wu(h:FI w G v s)(br:s.length<=16)(x:Wr)(bb:x.key.size<=4294967296)(bd:x.text.size<=4294967296)(S:Du x=jm)(l:WA s)(k:jA s x.key=jw)(bq:s.length<16):
 Calls prog 125 #[v,OU x] w λI w'=>∃aa,I=gY (.tuple #[aa,fP gZ (Ip s x).2])/\w'.ownsRow w.heap.size 100 3 aa (Ip s x).1.length (Gf (Ip s x).1)/\η w w':=by
 obtain⟨b,L,aD,t⟩:=newB w 100 [fQ x.key,fQ x.text,fU x.gone];have o:=Ac (λb=>QC x b bb bd);rw[S]at o;have bo:=Ac (λb(W:η w b)=>Oy (h.below W) O1);obtain⟨f,i,rfl,bp,aJ⟩:=h;have Y:=Ac aJ.1;have ae:=Ac t;have al:=Ac aD;have aV:=Ac L;obtain⟨c,d,e⟩:=t.p3;rw[L]at c d e;unfold OU at o⊢;have A:Hid (Ip s x=(s.take (Gl s x.key)++x::s.drop (Gl s x.key),0)):=Ac (by unfold Ip;rw[ku (by rw[S];decide),ku (by rw[k];decide),ku O1]);have n:=Ac (λb(W:η w b)=>WJ (c:=i) x.key O1 (Rd.below Y.out W) l);rw[k]at n;have r:=bF s x.key;obtain⟨a,aE⟩:∃a,Gl s x.key=a:=⟨_,rfl⟩;rw[aE]at n A r;have t1:decide ((16:Int)<=(s.length:Int))=false:=decide_eq_false O1;clear S k l aE t aD L aJ;have R:∀b:jD,(Instr.makeSlice 73 (fP gZ 0) (fP gZ ((s.length:Int)+1))).run prog b=.ok (fD (iC (Φ b.heap.size)) 0 (s.length+1)) (b.alloc (.cells (madeCells (Value.agg #[fQ ⟨#[]⟩,fQ ⟨#[]⟩,fU jw]).cells ((s.length+1)*3)) 100)):=λb=>by
  obtain⟨bk,ba,bg,bh,bi⟩:=info_parts Tryz.jJ.hi;have:=run_make (P:=prog) (w:=b) 73 100 bk _ underlying73 ba bg gZ gZ 0 ((s.length:Int)+1) O1 O1 (by rw[bi];omega) O1;rw[bh]at this;simpa[show((s.length:Int)+1).toNat=s.length+1 by omega]using this
 obtain⟨m,T⟩:∃m,madeCells (Value.agg #[fQ ⟨#[]⟩,fQ ⟨#[]⟩,fU jw]).cells ((s.length+1)*3)=m:=⟨_,rfl⟩;have bj:m.size=(s.length+1)*3:=by rw[<-T];simp[madeCells]
 rw[T]at R;have aq:decide (a<=s.length)=true:=decide_eq_true r;clear T;go_enter func125,ntmps125
 go_wp2_with fail
 rw[<-aV.out];refine(o _).mono ?_;rintro I bt⟨rfl,M⟩;have u:=ae.out.ξ M;have B:=Ac (τ al.out M);clear c d e;obtain⟨c,d,e⟩:=u.p3;have ah:=Ac u;clear o M u ae al
 go_wp2_with fail
 refine(n _ B.out).mono ?_;rintro I g⟨rfl,N⟩;have am:=Ac (τ B.out N);have y:=Ac (ah.out.ξ N);clear c d e;obtain⟨c,d,e⟩:=y.p3;clear n N ah B;have bc:=R g;obtain⟨E,q⟩:=ε (g.alloc (.cells m 100));rw[<-q]at bc;have az:E.ownsRow w.heap.size 100 3 (fD (iC (Φ g.heap.size)) 0 (s.length+1)) 0 []:=⟨by simp,.inr ⟨g.heap.size,s.length+1,m,rfl,am.size,q▸heap_alloc_new _ _,O1,Bq (show s.length+1<=17 by omega) U,by rw[bj],by simp⟩⟩;have Q:η g E:=q▸(Below.refl _ _).alloc (Nat.le_refl _) _;have z:=Ac (y.out.ξ Q);have C:=Ac (τ am.out Q);have aX:=Ac az;clear c d e;obtain⟨c,d,e⟩:=z.p3;have j:Rd E f (a*3) (Gf (s.take a)):=by
  have K:=Rd.below Y.out C.out;refine⟨by rw[OT];simp;omega,λk=>?_⟩;obtain⟨H,Z,J,X,ac⟩:=K.2 O1;exact⟨H,Z,J,X,λV aF=>by rw[ac V O1,<-Af6 s a r,List.getElem?_take,jM aF]⟩
 have a6:=Ac j;clear R q az Q j
 go_wp2_with(at_builtin;first
  |(refine Gm rfl (.tmp 39) (.tmp 42) 73 rfl Tryz.jJ U w.heap.size (.slice (iC (Φ g.heap.size)) 0 (s.length+1)) 0 [] rfl aX.out f a i (Gf (s.take a)) rfl a6.out (bW _) O1 U C.size ?_
    intro bs ab p ar aw;rw[Nat.zero_add,EK]at p;obtain⟨aM,aq,be,_,_⟩:=own_rowk p;subst be;have a0:=Ac p;have an:=Ac (C.trans ar);have ad:CB ab w.heap.size 100 [fQ x.key,fQ x.text,fU x.gone]:=(aw.2 w.heap.size z.lt (by have:=y.lt;simp only[Value.ownBlock,ne_eq,Option.some.injEq];omega)).trans z.out;clear c d e;obtain⟨c,d,e⟩:=ad.p3;clear p ar aw ad)
  |(refine BC rfl (.tmp 44) (.tmp 46) 73 rfl Tryz.jJ ab w.heap.size (.slice aM a aq) a (Gf (s.take a)) [.string x.key,.string x.text,.bool x.gone] rfl a0.out rfl ab.heap.size 1 rfl rfl rfl U (by intro aa l;simp at l;rcases l with rfl|rfl|rfl<;>rfl) O1 U an.size ?_
    intro a5 a1 bm aL av a7 a9;have aZ:=Ac aL;have D:=Ac (an.trans av);have j:Rd bm (if i=a then f else f.map λF=>F.add (a*3)) ((s.length-a)*3) (Gf (s.drop a)):=by
     have K:=Rd.below Y.out D.out;refine⟨by rw[OT];simp,λk=>?_⟩;obtain⟨H,Z,J,X,ac⟩:=K.2 O1;subst J;exact⟨H,Z+a*3,by rw[ku O1,Option.map_some,Addr.add_lit],X,λV aF=>by rw[Nat.add_assoc,ac (a*3+V) O1,<-Af7 s a r,List.getElem?_drop]⟩
    have aR:=Ac j;clear aL av a7 a9 j)
  |(refine Gm rfl (.tmp 48) (.tmp 51) 73 rfl Tryz.jJ U w.heap.size (.slice (iC (Φ a5)) (a+1) a1) (a+1) (Gf (s.take a)++[.string x.key,.string x.text,.bool x.gone]) rfl aZ.out (if i=a then f else f.map λF=>F.add (a*3)) (s.length-a) (i-a) (Gf (s.drop a)) rfl aR.out (bW _) O1 U D.size ?_
    intro bl bw ap ao a8;have a4:=Ac ap;have aW:=Ac (D.trans ao);clear ap ao a8)
  |fail)
 all_goals(
  go_ret2;have a2:a+1+(s.length-a)=(s.take a++x::s.drop a).length:=by simp;omega
  have a3:Gf (s.take a)++[fQ x.key,fQ x.text,fU x.gone]++Gf (s.drop a)=Gf (s.take a++x::s.drop a):=by rw[WG];simp[Gf,wrC]
  exact⟨bl,by rw[A.out];rfl,by rw[A.out,<-a2,<-a3];exact a4.out,aW.out⟩)
end
def tku{P:Program}{ops:Array Oper}{Q:Exit->Act->jD->Prop}{d:Region.Mode}{S:jD->Prop}(i:Nat){e:Oper}{fuel:Nat}{c:Array Bool}{a:Act}{w:jD}(j:S w)(h:wpAnyH P d ops Q S fuel (c.setIfInBounds i jm) (a.put e.dst undef) w)(hi:ops[i]?=iC e:=by rfl)
 (b:(Region.noSelect ops&&(Region.free d ops c i&&(Region.ready d ops c).contains i))=true:=by kernel_rfl)(g:∀f a w,Q (.panic f) (a.put e.dst undef) w->Q (.panic f) a w:=by exact λ_ _ _ h=>h)(k:Region.wanted e (yielded ops a.tmps)=false:=by rfl):wpAnyH P d ops Q S (fuel+1) c a w:=by
 rw[Bool.and_eq_true,Bool.and_eq_true]at b;exact wpAnyH_take hi b.1 b.2.1 b.2.2 g (.inr ⟨k,rfl⟩) j h
def An5{w:jD}{G:Nat->Prop}{v:Value}{l:List Wr}(h:FI w G v l)(j:∀c∈l,Du c=jm)(Y:WA l)(aZ:l.length<=16):Calls prog 92 #[v] w λE w'=>E=gY (fU jm)/\η w w':=by
 obtain⟨aF,an,rfl⟩:=h.slice;have R:=Ac h;have aE:=Ac j;have al:=Ac Y;clear h j Y;have t1:decide ((16:Int)<(l.length:Int))=false:=decide_eq_false O1;go_enter func92,ntmps92
 go_wp2_with fail
 go_loopw [10](λJ wr=>∃b:Nat,b<=l.length/\J=fP gZ (b:Nat)/\η w wr)(λJ _=>l.length-(intOf J).toNat)
 case atStart=>exact⟨0,Nat.zero_le _,rfl,Below.refl _ _⟩
 case round=>
  obtain⟨b,aX,rfl,U⟩:=hrel;have s:=Ac U;clear U;by_cases q:b<l.length
  ·obtain⟨k,m,aR,Z,_,ao,_,aw,az,aD⟩:=(R.below s.out).at b q;simp only[Value.slice.injEq]at Z;obtain⟨rfl,-,rfl⟩:=Z;obtain⟨ap,a3,aq⟩:=ltT q;have a1:=wk1 b O1;obtain⟨c,x⟩:=ε (l[b]);have j:=aE c (x▸List.getElem_mem q);have P:c.key.size<=4294967296/\c.text.size<=4294967296:=by
    unfold Du at j;simp only[Bool.and_eq_true,decide_eq_true_eq]at j;omega
   have am:=Ac x;rw[<-x]at aw az aD;have t:=Ac (λe=>QC c e P.1 P.2);unfold OU at t;obtain⟨g,T,V,n⟩:=newB wr 100 [fQ c.key,fQ c.text,fU c.gone];obtain⟨y,z,A⟩:=n.p3;have Q:=Ac (τ s.out V);have u:Hid (∀e,η g e->e.cell? (Φ wr.heap.size)=iC (fQ c.key)/\e.cell? (Δ wr.heap.size 1)=iC (fQ c.text)/\e.cell? (Δ wr.heap.size 2)=iC (fU c.gone)):=Ac (λe b=>⟨(n.ξ b).cell 0,(n.ξ b).cell 1,(n.ξ b).cell 2⟩);have C:=Ac T;clear T n V x;rw[j]at t;clear j;by_cases W:b=0
   ·have ar:decide ((0:Int)<(b:Int))=false:=decide_eq_false O1;have av:decide (0<b)=false:=decide_eq_false O1;clear W
    go_wp2_with fail
    rw[<-C.out];refine wp_region_held_drew (S:=(λw'=>w'.cell? (Φ wr.heap.size)=iC (fQ c.key)/\w'.cell? (Δ wr.heap.size 1)=iC (fQ c.text)/\w'.cell? (Δ wr.heap.size 2)=iC (fU c.gone))) Γ ⟨y,z,A⟩ (λa=>?_);refine Ld 0 (.agg #[fQ c.key,fQ c.text,fU c.gone]) a (hy:=λw i=>by obtain⟨K,L,M⟩:=i;go_simp) ?_
    try simp only[Act.put,Aq,Ai,Af,Ak,Au]
    refine wpAnyH_ready (rs:=[1]) Γ Θ ?_;refine AllReadyH.cons rfl (λD o=>?_) AllReadyH.nil;go_simp;go_at_call 139;refine(t _).mono ?_;rintro E N⟨rfl,p⟩;have f:η g N:=(((Dr.drew _).below _).trans p);refine o.out _ _ (u _ f) (λa=>?_);clear o D
    try simp only[Act.put,Aq,Aj,Ai,Af,Ak,Au]
    refine Ld 2 (fU jw) a ?_;refine Ld 3 (fU jw) a ?_;refine Ld 4 (fP gZ (b:Int)) a ?_
    try simp only[Act.put,Aq,Aj,Ai,Af,Ak,Au]
    refine Ld 5 (fU jw) a ?_;refine Ld 6 (fU jw) a ?_;refine tku 7 a ?_
    try simp only[Act.put,Aq,Aj,Ai,Af,Ak,Au]
    refine tku 8 a ?_;refine tku 9 a ?_;refine tku 10 a ?_
    try simp only[Act.put,Aq,Aj,Ai,Af,Ak,Au]
    refine tku 11 a ?_;refine tku 12 a ?_;refine tku 13 a ?_
    try simp only[Act.put,Aq,Aj,Ai,Af,Ak,Au]
    refine tku 14 a ?_;refine tku 15 a ?_;refine Ld 16 (fU jw) a ?_
    try simp only[Act.put,Aq,Aj,Ai,Af,Ak,Au]
    refine Ld 17 (fU jw) a ?_
    try simp only[Act.put,Aq,Aj,Ai,Af,Ak,Au]
    refine wpAnyH_done Γ ?_ _;have B:=Ac (τ Q.out f);clear p f y z A a
    go_wp2_with fail
    go_roundw
    case rel=>exact⟨b+1,O1,by go_num,B.out⟩
    case measure=>simp[intOf];omega
   ·obtain⟨d,X⟩:∃d,b=d+1:=⟨b-1,O1⟩;have ae:=Ac X;have F:d<l.length:=O1;obtain⟨aM,aJ,aV,aa,_,aW,_,ab,_,_⟩:=(R.below s.out).at d F;simp only[Value.slice.injEq,Option.some.injEq,Addr.mk.injEq,true_and,and_true]at aa;obtain⟨⟨rfl,rfl⟩,rfl⟩:=aa;obtain⟨r,I⟩:=ε (l[d]'F);rw[<-I]at ab;have H:g.cell? (Δ k (m+d*3))=iC (fQ r.key):=by rw[C.out];exact(BI (w:=wr) (χ _ _ ao)).trans ab
    have ah:Hid (∀e,η g e->e.cell? (Δ k (m+d*3))=iC (fQ r.key)):=Ac (λe b=>(BI (w:=g) (b.block _ (World.block_lt_of_cell? g _ H))).trans H);have a0:Op.bytesLess r.key.toList c.key.toList=true:=by
     have ad:=ae.out;subst ad;rw[I,am.out];exact al.lt F q (Nat.lt_succ_self d)
    have ar:decide ((0:Int)<(b:Int))=true:=decide_eq_true O1;have av:decide (0<b)=true:=decide_eq_true O1;have a2:IntKind.i64.wrap ((b:Int) -1)=(d:Int):=(IntWalk.i64_in _ O1).trans O1;have aL:(d:Int)<(l.length:Int):=O1;clear X W I
    go_wp2_with fail
    rw[<-C.out];refine wp_region_held_drew (S:=(λw'=>w'.cell? (Φ wr.heap.size)=iC (fQ c.key)/\w'.cell? (Δ wr.heap.size 1)=iC (fQ c.text)/\w'.cell? (Δ wr.heap.size 2)=iC (fU c.gone)/\w'.cell? (Δ k (m+d*3))=iC (fQ r.key))) Γ ⟨y,z,A,H⟩ (λa=>?_);refine Ld 0 (.agg #[fQ c.key,fQ c.text,fU c.gone]) a (hy:=λw i=>by obtain⟨K,L,M,ac⟩:=i;go_simp) ?_
    try simp only[Act.put,Aq,Ai,Af,Ak,Au]
    refine wpAnyH_ready (rs:=[1]) Γ Θ ?_;refine AllReadyH.cons rfl (λD o=>?_) AllReadyH.nil;go_simp;go_at_call 139;refine(t _).mono ?_;rintro E N⟨rfl,p⟩;have f:η g N:=(((Dr.drew _).below _).trans p);refine o.out _ _ (⟨(u _ f).1,(u _ f).2.1,(u _ f).2.2,ah _ f⟩) (λa=>?_);clear o D
    try simp only[Act.put,Aq,Aj,Ai,Af,Ak,Au]
    refine Ld 2 (fU jw) a ?_;refine Ld 3 (fU jw) a ?_;refine Ld 4 (fP gZ (b:Int)) a ?_
    try simp only[Act.put,Aq,Aj,Ai,Af,Ak,Au]
    refine Ld 5 (fU jm) a ?_;refine Ld 6 (fU jm) a ?_;refine Ld 7 (fD (iC (Δ k m)) l.length an) a ?_
    try simp only[Act.put,Aq,Aj,Ai,Af,Ak,Au]
    refine Ld 8 (fP gZ (b:Int)) a ?_;refine Ld 9 (fP gZ (d:Int)) a ?_;refine Ld 10 (.pointer (iC (Δ k (m+d*3)))) a ?_
    try simp only[Act.put,Aq,Aj,Ai,Af,Ak,Au]
    refine Ld 11 (.pointer (iC (Δ k (m+d*3)))) a ?_;refine Ld 12 (fQ r.key) a (hy:=λw i=>by obtain⟨K,L,M,ac⟩:=i;go_simp) ?_;refine Ld 13 (ptr0 wr.heap.size) a ?_
    try simp only[Act.put,Aq,Aj,Ai,Af,Ak,Au]
    refine Ld 14 (fQ c.key) a (hy:=λw i=>by obtain⟨K,L,M,ac⟩:=i;go_simp) ?_;refine Ld 15 (fU jw) a ?_;refine Ld 16 (fU jw) a ?_
    try simp only[Act.put,Aq,Aj,Ai,Af,Ak,Au]
    refine Ld 17 (fU jw) a ?_
    try simp only[Act.put,Aq,Aj,Ai,Af,Ak,Au]
    refine wpAnyH_done Γ ?_ _;have B:=Ac (τ Q.out f);clear p f y z A a
    go_wp2_with fail
    go_roundw
    case rel=>exact⟨b+1,O1,by go_num,B.out⟩
    case measure=>simp[intOf];omega
  ·obtain⟨ap,aq⟩:=qA q
   go_wp2_with fail
   go_ret;exact⟨rfl,s.out⟩
section
variable{len:Mode}{w w':jD}{x d p L:Nat}{s:St}{F:Nat->Prop}
def pq(h:EE len w d p L s F){G:Nat->Prop}{v:Value}{l:List Wr}(j:FI w G v l)(D:∀Y∈l,Du Y=jm)(H:WA l)(C:l.length<=16){stamp:UInt64}(h1:(s.ws 8).toNat<stamp.toNat)(h2:stamp.toNat<=60000):
 Calls prog 54 #[ptr0 d,ptr0 p,ptr0 x,fP .u64 (stamp.toNat:Int),v] w λb w'=>η w w'/\∃k J,b=gY (.tuple #[ptr0 k,fP gZ 0])/\
  w.heap.size<=k/\CB w' k 194 (Eh x d p stamp J (fD none 0 0) jw 0)/\∀G:Nat->Prop,(∀a,w.heap.size<=a->a<k->¬G a)->FI w' G J l:=by
 have R:=h.pos.1;have t0:(((L*64:Nat):Int)==0)=false:=ζ O1;have n:=Ac h.size;obtain⟨I,E⟩:∃I,L*64=I:=⟨_,rfl⟩;rw[E]at t0 n;have S:=h.pos.2.2.1.fits;have T:=h.pos.2.2.1.OI;have m:=Ac (h.load 8 O1);rw[show((8*8:Nat):Int)=64 from rfl]at m;obtain⟨Z,aa,rfl⟩:=j.slice;have y:=Ac (An5 j D H C);have P:=Ac j;have M:Hid (l.length<=100000):=Ac O1;have t2:decide (stamp.toNat<=(s.ws 8).toNat)=false:=decide_eq_false O1;have t3:decide ((60000:Int)<(stamp.toNat:Int))=false:=decide_eq_false O1;clear h j E R S T D H C h1 h2;go_enter func54,ntmps54
 go_wp2_with fail
 refine n.mono ?_;rintro b K⟨rfl,rfl⟩
 go_wp2_with fail
 refine m.mono ?_;rintro b K⟨rfl,rfl⟩
 go_wp2_with fail
 refine y.mono ?_;rintro b K⟨rfl,q⟩;have u:=Ac (Oy (P.below q) M.out);have t:=Ac q;clear q n m y
 go_wp2_with fail
 refine u.mono ?_;rintro b e⟨ab,rfl,o,A⟩;obtain⟨f,g,X,_,_⟩:=own_rowk o;subst X;have N:=Ac o;have r:=Ac (τ t.out A);clear o A u
 go_wp2_with fail
 go_ret2;obtain⟨z,c⟩:=ε (e.alloc (.cells (Eh x d p stamp (fD f l.length g) (fD none 0 0) jw 0).toArray 194));have i:η e z:=c▸(Below.refl _ _).alloc (Nat.le_refl _) _;have B:CB z e.heap.size 194 (Eh x d p stamp (fD f l.length g) (fD none 0 0) jw 0):=c▸heap_alloc_new _ _;refine⟨by rw[c]at i;exact τ r.out i,e.heap.size,fD f l.length g,rfl,r.size,by rw[c]at B;exact B,λG Q=>?_⟩;have W:FI e G (fD f l.length g) l:=WH N.out rfl (λa U V=>Q a (Bq t.size U) V);rw[c]at i;exact W.below i
end
